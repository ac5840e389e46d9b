/- Layer 11: the table's acts, told by what comes of them. -/
import Derived.Test.YtcpaakhmcpeagaaC8
import Derived.Test.YtcpaakhmcpeagaaC7
namespace Go.Proofs.Ytcpaakhmcpeagaa.Q
open Go.RowKit Go.Proofs.YtcpaakhmcpeagaaW.PrintWords Go.Proofs.YtcpaakhmcpeagaaW.PrintMore
set_option linter.unusedVariables false
set_option linter.unusedSimpArgs false
def freeF (P : Nat → Pl) (n : Nat) : Option Nat := (List.range n).find? (fun i => opn (P i))
theorem freeF_some {P : Nat → Pl} {n i : Nat} (h : freeF P n = some i) : i < n ∧ opn (P i) = true ∧ ∀ k, k < i → opn (P k) = false := by
  unfold freeF at h
  rw [List.find?_range_eq_some] at h
  obtain ⟨h1, h2, h3⟩ := h
  exact ⟨by simpa using h2, h1, fun k hk => by simpa using h3 k hk⟩
theorem freeF_none {P : Nat → Pl} {n : Nat} (h : freeF P n = none) : ∀ k, k < n → opn (P k) = false := by
  unfold freeF at h
  rw [List.find?_range_eq_none] at h
  exact fun k hk => by simpa using h k hk
theorem Ok.put {P : Nat → Pl} (ok : Ok P) (i : Nat) (p : Pl) (r0 : 0 ≤ p.r) (r1 : p.r ≤ 255) (g0 : 1 ≤ p.g) (g1 : p.g ≤ 65536) (tg : p.t = true → p.g ≤ 65535) : Ok (upd P i p) := by
  have key : ∀ k, upd P i p k = p ∨ upd P i p k = P k := fun k => by unfold upd; split <;> simp
  refine ⟨fun k => ?_, fun k => ?_, fun k => ?_, fun k => ?_, fun k => ?_⟩ <;> rcases key k with e | e <;> rw [e]
  · exact r0
  · exact ok.r0 k
  · exact r1
  · exact ok.r1 k
  · exact g0
  · exact ok.g0 k
  · exact g1
  · exact ok.g1 k
  · exact tg
  · exact ok.tg k
def freshP : Nat → Pl := fun _ => ⟨1, false, 0, 0⟩
theorem freshP_ok : Ok freshP := ⟨fun _ => (by decide : (0 : Int) ≤ 0), fun _ => (by decide : (0 : Int) ≤ 255), fun _ => (by decide : (1 : Int) ≤ 1), fun _ => (by decide : (1 : Int) ≤ 65536), fun _ h => by cases h⟩
theorem opn_of {p : Pl} (h : opn p = true) : p.t = false ∧ p.g ≤ 65535 := by unfold opn at h; cases ht : p.t <;> simp [ht] at h; exact ⟨rfl, h⟩
/-- What comes of a mint: the handle, the error, the places. -/
def mintF (P : Nat → Pl) (n : Nat) (c r : Int) : Int × Int × (Nat → Pl) :=
  if r = 0 then (0, 1, P) else match freeF P n with
    | none => (0, 110, P)
    | some i => ((handleR i r (P i).g).1, 0, upd P i ⟨(P i).g, true, c, r⟩)
/-- What comes of a drop. -/
def dropF (P : Nat → Pl) (n : Nat) (x : Int) : Int × (Nat → Pl) :=
  if atF P n x < 0 then (111, P) else (0, upd P (atF P n x).toNat ⟨(P (atF P n x).toNat).g + 1, false, 0, 0⟩)
theorem atF_taken {P : Nat → Pl} {n : Nat} {x : Int} (h : ¬ atF P n x < 0) : (P (atF P n x).toNat).t = true ∧ hd P (atF P n x).toNat = x ∧ (atF P n x).toNat < n := by
  unfold atF at h ⊢
  split at h
  · next e => rw [if_pos e, Int.toNat_natCast]; exact ⟨e.2.1, e.2.2, e.1⟩
  · exact absurd (by decide) h
theorem mintF_ok {P : Nat → Pl} (ok : Ok P) (n : Nat) (c r : Int) (r0 : 0 ≤ r) (r1 : r ≤ 255) : Ok (mintF P n c r).2.2 := by
  unfold mintF
  split
  · exact ok
  · cases hf : freeF P n with
    | none => exact ok
    | some i => exact ok.put i _ r0 r1 (ok.g0 i) (ok.g1 i) (fun _ => (opn_of (freeF_some hf).2.1).2)
theorem dropF_ok {P : Nat → Pl} (ok : Ok P) (n : Nat) (x : Int) : Ok (dropF P n x).2 := by
  unfold dropF
  split
  · exact ok
  · next h =>
    refine ok.put _ _ (by decide : (0 : Int) ≤ 0) (by decide : (0 : Int) ≤ 255) ?_ ?_ (fun h => by cases h)
    · have := ok.g0 (atF P n x).toNat; show (1 : Int) ≤ _ + 1; omega
    · have := ok.tg _ (atF_taken h).1; show _ + 1 ≤ (65536 : Int); omega
theorem new9' (w : World) (n : Nat) (hn : n ≤ 32) : Calls Try.prog 9 #[.int .i64 n] w fun e w' => e = .returned (.tuple #[.pointer (some ⟨w.heap.size, 0, none⟩), .int .i64 0]) ∧ TabAt w' w.heap.size freshP n true ∧ Below w.heap.size w w' := by
  refine (new9 w n hn).mono fun e w' h => ⟨h.1, ?_, h.2.2⟩
  have ht := h.2.1
  unfold TabAt at ht ⊢
  rw [ht]
  refine congrArg (fun l : List Value => some (Obj.cells l.toArray 62 (0, 0))) (tcells_ext (tcells_len _ _ _) (fun i j hi hj => ?_) (tcells_n _ _ _) (tcells_m _ _ _))
  rw [tcells_at _ _ _ _ _ hi hj]
  unfold newP freshP
  rw [if_pos hi]
theorem mint11 (w : World) (b : Nat) (P : Nat → Pl) (n : Nat) (hn : n ≤ 32) (ok : Ok P) (h : TabAt w b P n true) (c r : Int) (r0 : 0 ≤ r) (r1 : r ≤ 255) :
    Calls Try.prog 11 #[.pointer (some ⟨b, 0, none⟩), .agg #[.int .i64 c, .int .u8 r]] w fun e w' => e = .returned (.tuple #[.int .u32 (mintF P n c r).1, .int .i64 (mintF P n c r).2.1]) ∧ TabAt w' b (mintF P n c r).2.2 n true ∧ Only b w w' := by
  unfold mintF
  by_cases hr : r = 0
  · rw [if_pos hr]
    exact (mint11_z w b P n hn ok h c r hr).mono fun _ _ k => ⟨k.1, h.below k.2, Only.of k.2⟩
  · rw [if_neg hr]
    cases hf : freeF P n with
    | none => exact (mint11_f w b P n hn ok h c r hr (freeF_none hf)).mono fun _ _ k => ⟨k.1, h.below k.2, Only.of k.2⟩
    | some i => exact mint11_a w b P n hn ok h c r hr r0 r1 i (freeF_some hf).1 (freeF_some hf).2.2 (freeF_some hf).2.1
theorem drop12 (w : World) (b : Nat) (P : Nat → Pl) (n : Nat) (hn : n ≤ 32) (ok : Ok P) (h : TabAt w b P n true) (x : Int) (x0 : 0 ≤ x) (x1 : x < 4294967296) :
    Calls Try.prog 12 #[.pointer (some ⟨b, 0, none⟩), .int .u32 x] w fun e w' => e = .returned (.int .i64 (dropF P n x).1) ∧ TabAt w' b (dropF P n x).2 n true ∧ Only b w w' := by
  unfold dropF
  by_cases ha : atF P n x < 0
  · rw [if_pos ha]
    have := atF_ge P n x
    exact (drop12_b w b P n hn ok h x x0 x1 (by omega)).mono fun _ _ k => ⟨k.1, h.below k.2, Only.of k.2⟩
  · rw [if_neg ha]
    have := atF_lt P n x
    exact drop12_a w b P n hn ok h x x0 x1 _ (by omega) (by omega)
theorem find13' (w : World) (b : Nat) (P : Nat → Pl) (n : Nat) (hn : n ≤ 32) (ok : Ok P) (h : TabAt w b P n true) (x : Int) (x0 : 0 ≤ x) (x1 : x < 4294967296) :
    Calls Try.prog 13 #[.pointer (some ⟨b, 0, none⟩), .int .u32 x] w fun e w' => e = .returned (.tuple #[.agg #[.int .i64 (findF P n x).1, .int .u8 (findF P n x).2.1], .bool (findF P n x).2.2]) ∧ TabAt w' b P n true ∧ Below w.heap.size w w' :=
  (find13 w b P n hn ok h x x0 x1).mono fun _ _ k => ⟨k.1, h.below k.2, k.2⟩
end Go.Proofs.Ytcpaakhmcpeagaa.Q
