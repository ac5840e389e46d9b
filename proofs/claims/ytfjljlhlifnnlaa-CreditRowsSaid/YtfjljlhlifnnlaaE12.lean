/- Layer 13: arguments of rows within rows, as they are read. -/
import Derived.Test.YtfjljlhlifnnlaaQx6
import Derived.ChangeArms
import Derived.DataElems
namespace Go.Proofs.Ytfjljlhlifnnlaa.Q
open Go.RowKit Go.Proofs.YtfjljlhlifnnlaaW.PrintWords
set_option linter.unusedVariables false
theorem mapM_get {α β : Type} {f : α → Option β} : ∀ (l : List α) (r : List β), l.mapM f = some r → r.length = l.length ∧ ∀ (i : Nat) (a : α) (b : β), l[i]? = some a → r[i]? = some b → f a = some b
  | [], r, h => by
    simp at h
    subst h
    exact ⟨rfl, fun i a b h1 => by simp at h1⟩
  | a :: l, r, h => by
    rw [List.mapM_cons] at h
    simp only [Option.bind_eq_bind, Option.bind_eq_some_iff] at h
    obtain ⟨b, hb, rs, hrs, e⟩ := h
    have e' : b :: rs = r := by simpa using e
    subst e'
    obtain ⟨h1, h2⟩ := mapM_get l rs hrs
    refine ⟨by simp [h1], fun i a' b' ha' hb' => ?_⟩
    cases i with
    | zero => simp at ha' hb'; subst ha' hb'; exact hb
    | succ i => exact h2 i a' b' (by simpa using ha') (by simpa using hb')
theorem cells_at {w : World} {base : Nat} {a : Addr} {n : Nat} {c : List Value} (h : w.cells? base a n = some c) : c.length = n ∧ ∀ i u, c[i]? = some u → w.cell? (a.add i) = some u := by
  unfold World.cells? at h
  split at h
  · obtain ⟨h1, h2⟩ := mapM_get _ _ h
    rw [List.length_range] at h1
    refine ⟨h1, fun i u hu => h2 i i u ?_ hu⟩
    have hi : i < n := by have := (List.getElem?_eq_some_iff.1 hu).1; omega
    rw [List.getElem?_range hi]
  · cases h
theorem pick {α : Type} (p : Nat → α → Prop) : ∀ n, (∀ i, i < n → ∃ a, p i a) → ∃ xs : List α, xs.length = n ∧ ∀ i a, xs[i]? = some a → p i a
  | 0, _ => ⟨[], rfl, fun i a h => by simp at h⟩
  | n + 1, h => by
    obtain ⟨xs, h1, h2⟩ := pick p n (fun i hi => h i (by omega))
    obtain ⟨a, ha⟩ := h n (by omega)
    refine ⟨xs ++ [a], by simp [h1], fun i b hb => ?_⟩
    by_cases hi : i < xs.length
    · rw [List.getElem?_append_left hi] at hb
      exact h2 i b hb
    · rw [List.getElem?_append_right (by omega)] at hb
      have hi0 : i - xs.length = 0 := by
        by_cases h0 : i - xs.length = 0
        · exact h0
        · rw [List.getElem?_eq_none (by simp; omega)] at hb; cases hb
      rw [hi0] at hb
      simp at hb
      subst hb
      have : i = n := by omega
      subst this
      exact ha
abbrev Kd0 : Kd (List S69) := Kd.slice 69 k69
abbrev Kd1 : Kd (List (List S23)) := Kd.slice 70 (Kd.slice 23 k23)
section
variable {H : Type} (enc : TypeId × Value → H) (W : World)
/-- What is read of a type is of a kind. -/
def Opens {α : Type} (t : TypeId) (d : Kd α) : Prop := ∀ (fuel : Nat) (cs : List Value) (x : DataW H × List MemPlace), DataW.trod enc Try.prog W 0 (fun _ => true) true fuel t cs = some x → ∃ a, d.K W a cs
theorem opens_int {t : TypeId} {k : IntKind} (ht : Try.prog.underlying t = some (.int k)) : Opens enc W t (Kd.int k) := fun fuel cs x h => by
  obtain ⟨n, rfl, _, _⟩ := DataW.trod_int ht h
  exact ⟨n, rfl⟩
theorem opens_bool {t : TypeId} (ht : Try.prog.underlying t = some .bool) : Opens enc W t Kd.bool := fun fuel cs x h => by
  obtain ⟨b, rfl, _⟩ := DataW.trod_bool ht h
  exact ⟨b, rfl⟩
theorem opens_slice {α : Type} {t e : TypeId} {d : Kd α} (ht : Try.prog.underlying t = some (.slice e)) (hsz : Try.prog.cellsOf e = d.sz) (hd : Opens enc W e d) : Opens enc W t (Kd.slice e d) := fun fuel cs x h => by
  rcases DataW.trod_slice ht h with ⟨rfl, _⟩ | ⟨a, len, cap, elems, rest, n, _, rfl, _, _, hl, hm, hlen, hel, _⟩
  · exact ⟨[], none, 0, rfl, Nat.le_refl _, rfl, by simp, fun h => absurd h (by simp)⟩
  · obtain ⟨xs, h1, h2⟩ := pick (fun i a' => ∃ c, W.cells? 0 (a.add (i * d.sz)) d.sz = some c ∧ d.K W a' c) len (fun i hi => by
      have h3 := hel i hi
      rw [List.getElem?_eq_getElem (show i < elems.length by omega), hsz, Option.bind_eq_some_iff] at h3
      obtain ⟨c, hc, hx⟩ := h3
      obtain ⟨a', ha'⟩ := hd n c _ hx
      exact ⟨a', c, hc, ha'⟩)
    have hmax : maxLen ≤ 9223372036854775807 := by decide
    refine ⟨xs, some a, cap, by rw [h1], by omega, rfl, by omega, fun _ => ⟨a, rfl, fun j p hj => ?_⟩⟩
    obtain ⟨c, hc, hK⟩ := h2 j p hj
    obtain ⟨hcl, hcell⟩ := cells_at hc
    refine ⟨c, hcl, hK, fun i u hu => ?_⟩
    have := hcell i u hu
    rwa [Addr.add_add] at this
theorem opens_struct2 {α β : Type} {t : TypeId} {f0 f1 : Field} {d0 : Kd α} {d1 : Kd β} (ht : Try.prog.underlying t = some (.struct #[f0, f1])) (hc : Try.prog.cellsOf t = 2)
    (o0 : f0.offset = 0) (o1 : f1.offset = 1) (c0 : Try.prog.cellsOf f0.type = 1) (c1 : Try.prog.cellsOf f1.type = 1) (h0 : Opens enc W f0.type d0) (h1 : Opens enc W f1.type d1) : Opens enc W t (Kd.pair d0 d1) := fun fuel cs x h => by
  obtain ⟨xs, n, _, _, hl, hxs, hf⟩ := DataW.trod_struct ht h
  rw [hc] at hl
  obtain ⟨a, b, rfl⟩ : ∃ a b, cs = [a, b] := by
    match cs, hl with
    | [a, b], _ => exact ⟨a, b, rfl⟩
  obtain ⟨y0, y1, rfl⟩ : ∃ y0 y1, xs = [y0, y1] := by
    match xs, hxs with
    | [y0, y1], _ => exact ⟨y0, y1, rfl⟩
  have g0 := hf 0 f0 rfl
  have g1 := hf 1 f1 rfl
  rw [o0, c0] at g0
  rw [o1, c1] at g1
  obtain ⟨a0, k0⟩ := h0 _ _ _ g0
  obtain ⟨a1, k1⟩ := h1 _ _ _ g1
  exact ⟨(a0, a1), [a], [b], rfl, k0, k1⟩
theorem opens_struct3 {α β γ : Type} {t : TypeId} {f0 f1 f2 : Field} {d0 : Kd α} {d1 : Kd β} {d2 : Kd γ} (ht : Try.prog.underlying t = some (.struct #[f0, f1, f2])) (hc : Try.prog.cellsOf t = 3)
    (o0 : f0.offset = 0) (o1 : f1.offset = 1) (o2 : f2.offset = 2) (c0 : Try.prog.cellsOf f0.type = 1) (c1 : Try.prog.cellsOf f1.type = 1) (c2 : Try.prog.cellsOf f2.type = 1)
    (h0 : Opens enc W f0.type d0) (h1 : Opens enc W f1.type d1) (h2 : Opens enc W f2.type d2) : Opens enc W t (Kd.pair d0 (Kd.pair d1 d2)) := fun fuel cs x h => by
  obtain ⟨xs, n, _, _, hl, hxs, hf⟩ := DataW.trod_struct ht h
  rw [hc] at hl
  obtain ⟨a, b, c, rfl⟩ : ∃ a b c, cs = [a, b, c] := by
    match cs, hl with
    | [a, b, c], _ => exact ⟨a, b, c, rfl⟩
  obtain ⟨y0, y1, y2, rfl⟩ : ∃ y0 y1 y2, xs = [y0, y1, y2] := by
    match xs, hxs with
    | [y0, y1, y2], _ => exact ⟨y0, y1, y2, rfl⟩
  have g0 := hf 0 f0 rfl
  have g1 := hf 1 f1 rfl
  have g2 := hf 2 f2 rfl
  rw [o0, c0] at g0
  rw [o1, c1] at g1
  rw [o2, c2] at g2
  obtain ⟨a0, k0⟩ := h0 _ _ _ g0
  obtain ⟨a1, k1⟩ := h1 _ _ _ g1
  obtain ⟨a2, k2⟩ := h2 _ _ _ g2
  exact ⟨(a0, a1, a2), [a], [b, c], rfl, k0, [b], [c], rfl, k1, k2⟩
theorem opens_iso {α β : Type} {t : TypeId} {d : Kd α} (f : β → α) (g : α → β) (hfg : ∀ a, f (g a) = a) (h : Opens enc W t d) : Opens enc W t (Kd.iso d f) := fun fuel cs x hx => by
  obtain ⟨a, ha⟩ := h fuel cs x hx
  exact ⟨g a, show d.K W (f (g a)) cs by rw [hfg]; exact ha⟩
theorem opens72 : Opens enc W 72 k72 := opens_iso enc W _ (fun a => ⟨a.1, a.2.1, a.2.2⟩) (fun _ => rfl) (opens_struct3 enc W Try.underlying72 (by kernel_rfl) rfl rfl rfl (by kernel_rfl) (by kernel_rfl) (by kernel_rfl) (opens_int enc W Try.underlying3) (opens_int enc W Try.underlying3) (opens_bool enc W Try.underlying4))
theorem opens91 : Opens enc W 91 k91 := opens_iso enc W _ (fun a => ⟨a.1, a.2⟩) (fun _ => rfl) (opens_struct2 enc W Try.underlying91 (by kernel_rfl) rfl rfl (by kernel_rfl) (by kernel_rfl) (opens_int enc W Try.underlying3) (opens_bool enc W Try.underlying4))
theorem opens23 : Opens enc W 23 k23 := opens_iso enc W _ (fun a => ⟨a.1, a.2.1, a.2.2⟩) (fun _ => rfl) (opens_struct3 enc W Try.underlying23 (by kernel_rfl) rfl rfl rfl (by kernel_rfl) (by kernel_rfl) (by kernel_rfl) (opens_int enc W Try.underlying3) (opens_int enc W Try.underlying3) (opens_int enc W Try.underlying3))
theorem opens69 : Opens enc W 69 k69 := opens_iso enc W _ (fun a => ⟨a.1, a.2.1, a.2.2⟩) (fun _ => rfl) (opens_struct3 enc W Try.underlying69 (by kernel_rfl) rfl rfl rfl (by kernel_rfl) (by kernel_rfl) (by kernel_rfl) (opens_int enc W Try.underlying3) (opens_slice enc W Try.underlying66 (by kernel_rfl) (opens72 enc W)) (opens_slice enc W Try.underlying67 (by kernel_rfl) (opens91 enc W)))
theorem opens49 : Opens enc W 49 Kd0 := opens_slice enc W Try.underlying49 (by kernel_rfl) (opens69 enc W)
theorem opens50 : Opens enc W 50 Kd1 := opens_slice enc W Try.underlying50 (by kernel_rfl) (opens_slice enc W Try.underlying70 (by kernel_rfl) (opens23 enc W))
end
end Go.Proofs.Ytfjljlhlifnnlaa.Q
