/- Layer 11, plain: a handle that was dropped stands for nothing again, and none is told twice. -/
import Derived.Test.YtcpaakhmcpeagaaC12
namespace Go.Proofs.Ytcpaakhmcpeagaa.Q
open Go.RowKit Go.Proofs.YtcpaakhmcpeagaaW.PrintWords Go.Proofs.YtcpaakhmcpeagaaW.PrintMore
set_option linter.unusedVariables false
set_option linter.unusedSimpArgs false
/-- A handle that was told once. -/
def Used (P : Nat → Pl) (x : Int) : Prop := 0 ≤ x ∧ x < 4294967296 ∧ (x / 65536 < (P (x % 256).toNat).g ∨ (x / 65536 = (P (x % 256).toNat).g ∧ (P (x % 256).toNat).t = true))
/-- A handle that stands for nothing any more. -/
def Gone (P : Nat → Pl) (x : Int) : Prop := 0 ≤ x ∧ x < 4294967296 ∧ x / 65536 < (P (x % 256).toNat).g
theorem hd_is {P : Nat → Pl} (ok : Ok P) {i : Nat} (hi : i ≤ 255) (hg : (P i).g ≤ 65535) : hd P i = (i : Int) + 256 * (P i).r + 65536 * (P i).g := by
  unfold hd
  have := ok.g0 i
  rw [handle_in _ _ _ (by omega) (by omega) (ok.r0 i) (ok.r1 i) (by omega) hg]
theorem gone_at {P : Nat → Pl} (ok : Ok P) {n : Nat} {x : Int} (h : Gone P x) : atF P n x = -1 := by
  obtain ⟨h0, h1, h2⟩ := h
  unfold atF
  split
  · next e =>
    obtain ⟨e1, e2, e3⟩ := e
    have e4 := hd_is ok (i := (x % 256).toNat) (by omega) (ok.tg _ e2)
    rw [e3] at e4
    have := ok.r0 (x % 256).toNat
    have := ok.r1 (x % 256).toNat
    omega
  · rfl
theorem gone_find {P : Nat → Pl} (ok : Ok P) {n : Nat} {x : Int} (h : Gone P x) : findF P n x = (0, 0, false) := by
  unfold findF
  rw [gone_at ok h, if_neg (by decide)]
theorem gone_drop {P : Nat → Pl} (ok : Ok P) {n : Nat} {x : Int} (h : Gone P x) : dropF P n x = (111, P) := by
  unfold dropF
  rw [gone_at ok h, if_pos (by decide)]
/-- What holds of told handles, and of dead ones. -/
structure Inv (P : Nat → Pl) (told dead : List Int) : Prop where
  told : ∀ x ∈ told, Used P x
  dead : ∀ x ∈ dead, Gone P x
theorem mint_is {P : Nat → Pl} {n : Nat} {c r : Int} (h : (mintF P n c r).2.1 = 0) : ∃ i, freeF P n = some i ∧ mintF P n c r = ((handleR i r (P i).g).1, 0, upd P i ⟨(P i).g, true, c, r⟩) := by
  unfold mintF at h ⊢
  split at h
  · cases h
  · next hr =>
    rw [if_neg hr]
    cases hf : freeF P n with
    | none => rw [hf] at h; cases h
    | some i => exact ⟨i, rfl, rfl⟩
theorem mint_not {P : Nat → Pl} {n : Nat} {c r : Int} (h : (mintF P n c r).2.1 ≠ 0) : (mintF P n c r).2.2 = P := by
  unfold mintF at h ⊢
  split
  · rfl
  · next hr =>
    rw [if_neg hr] at h
    cases hf : freeF P n with
    | none => rfl
    | some i => rw [hf] at h; exact absurd rfl h
theorem drop_is {P : Nat → Pl} {n : Nat} {x : Int} (h : (dropF P n x).1 = 0) : ¬ atF P n x < 0 ∧ dropF P n x = (0, upd P (atF P n x).toNat ⟨(P (atF P n x).toNat).g + 1, false, 0, 0⟩) := by
  unfold dropF at h ⊢
  split at h
  · cases h
  · next ha => rw [if_neg ha]; exact ⟨ha, rfl⟩
theorem drop_not {P : Nat → Pl} {n : Nat} {x : Int} (h : (dropF P n x).1 ≠ 0) : dropF P n x = (111, P) := by
  unfold dropF at h ⊢
  split
  · rfl
  · next ha => rw [if_neg ha] at h; exact absurd rfl h
theorem mint_handle {P : Nat → Pl} (ok : Ok P) {n : Nat} (hn : n ≤ 32) {c r : Int} (r0 : 0 ≤ r) (r1 : r ≤ 255) {i : Nat} (hf : freeF P n = some i) : (handleR i r (P i).g).1 = (i : Int) + 256 * r + 65536 * (P i).g ∧ (P i).t = false ∧ i < n ∧ (P i).g ≤ 65535 ∧ 1 ≤ (P i).g := by
  obtain ⟨h1, h2, _⟩ := freeF_some hf
  obtain ⟨h3, h4⟩ := opn_of h2
  have := ok.g0 i
  rw [handle_in _ _ _ (by omega) (by omega) r0 r1 (by omega) h4]
  exact ⟨rfl, h3, h1, h4, this⟩
theorem inv_mint {P : Nat → Pl} (ok : Ok P) {n : Nat} (hn : n ≤ 32) {c r : Int} (r0 : 0 ≤ r) (r1 : r ≤ 255) {told dead : List Int} (I : Inv P told dead) (h : (mintF P n c r).2.1 = 0) :
    (∀ x ∈ told, x ≠ (mintF P n c r).1) ∧ (0 ≤ (mintF P n c r).1 ∧ (mintF P n c r).1 < 4294967296) ∧ Inv (mintF P n c r).2.2 (told ++ [(mintF P n c r).1]) dead := by
  obtain ⟨i, hf, e⟩ := mint_is h
  obtain ⟨e1, ht, hin, hg, hg0⟩ := mint_handle ok hn (c := c) r0 r1 hf
  rw [e, e1]
  dsimp only
  have hm : ((i : Int) + 256 * r + 65536 * (P i).g) % 256 = (i : Int) := by omega
  have hdv : ((i : Int) + 256 * r + 65536 * (P i).g) / 65536 = (P i).g := by omega
  have key : ∀ k, (upd P i ⟨(P i).g, true, c, r⟩ k).g = (P k).g := fun k => by unfold upd; split <;> simp_all
  have keyt : ∀ k, (P k).t = true → (upd P i ⟨(P i).g, true, c, r⟩ k).t = true := fun k hk => by unfold upd; split <;> simp_all
  refine ⟨fun x hx e2 => ?_, by omega, ⟨fun x hx => ?_, fun x hx => ?_⟩⟩
  · obtain ⟨_, _, h3⟩ := I.told x hx
    rw [e2, hm, hdv, Int.toNat_natCast] at h3
    rcases h3 with h3 | ⟨_, h3⟩
    · omega
    · rw [ht] at h3; cases h3
  · rcases List.mem_append.1 hx with hx | hx
    · obtain ⟨h1, h2, h3⟩ := I.told x hx
      refine ⟨h1, h2, ?_⟩
      rw [key]
      rcases h3 with h3 | ⟨h3, h4⟩
      · exact .inl h3
      · exact .inr ⟨h3, keyt _ h4⟩
    · rw [List.mem_singleton] at hx
      subst hx
      refine ⟨by omega, by omega, .inr ?_⟩
      rw [hm, hdv, Int.toNat_natCast, upd_same]
      exact ⟨rfl, rfl⟩
  · obtain ⟨h1, h2, h3⟩ := I.dead x hx
    exact ⟨h1, h2, by rw [key]; exact h3⟩
theorem inv_drop {P : Nat → Pl} (ok : Ok P) {n : Nat} (hn : n ≤ 32) {x : Int} (x0 : 0 ≤ x) (x1 : x < 4294967296) {told dead : List Int} (I : Inv P told dead) (h : (dropF P n x).1 = 0) : Inv (dropF P n x).2 told (dead ++ [x]) := by
  obtain ⟨ha, e⟩ := drop_is h
  obtain ⟨ht, hh, hi⟩ := atF_taken ha
  rw [e]
  dsimp only
  obtain ⟨i, hia⟩ : ∃ i, i = (atF P n x).toNat := ⟨_, rfl⟩
  rw [← hia] at ht hh hi ⊢
  have e4 := hd_is ok (i := i) (by omega) (ok.tg _ ht)
  rw [hh] at e4
  have := ok.r0 i
  have := ok.r1 i
  have key : ∀ k, (P k).g ≤ (upd P i ⟨(P i).g + 1, false, 0, 0⟩ k).g := fun k => by
    unfold upd
    split
    · next e => subst e; show _ ≤ _ + 1; omega
    · exact Int.le_refl _
  have keyt : ∀ k, (P k).t = true → (P k).g < (upd P i ⟨(P i).g + 1, false, 0, 0⟩ k).g ∨ (upd P i ⟨(P i).g + 1, false, 0, 0⟩ k) = P k := fun k _ => by
    unfold upd
    split
    · next e => subst e; exact .inl (by show _ < _ + 1; omega)
    · exact .inr rfl
  refine ⟨fun y hy => ?_, fun y hy => ?_⟩
  · obtain ⟨h1, h2, h3⟩ := I.told y hy
    refine ⟨h1, h2, ?_⟩
    have hk := key (y % 256).toNat
    rcases h3 with h3 | ⟨h3, h4⟩
    · exact .inl (by omega)
    · rcases keyt _ h4 with h5 | h5
      · exact .inl (by omega)
      · rw [h5]; exact .inr ⟨h3, h4⟩
  · rcases List.mem_append.1 hy with hy | hy
    · obtain ⟨h1, h2, h3⟩ := I.dead y hy
      have hk := key (y % 256).toNat
      exact ⟨h1, h2, by omega⟩
    · rw [List.mem_singleton] at hy
      subst hy
      refine ⟨x0, x1, ?_⟩
      have hm : (y % 256).toNat = i := by omega
      rw [hm, upd_same]
      show y / 65536 < (P i).g + 1
      omega
end Go.Proofs.Ytcpaakhmcpeagaa.Q
