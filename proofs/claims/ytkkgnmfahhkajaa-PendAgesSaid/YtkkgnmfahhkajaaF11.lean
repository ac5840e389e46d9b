/- Layer 18, the rows: arguments as they come in. -/
import Derived.Test.YtkkgnmfahhkajaaQx0
import Derived.ChangeArms
import Derived.DataElems
namespace Go.Proofs.Ytkkgnmfahhkajaa.Q
open Go.RowKit Go.Proofs.YtkkgnmfahhkajaaW.PrintWords Go.Proofs.YtkkgnmfahhkajaaW.PrintMore
set_option linter.unusedVariables false
set_option linter.unusedSimpArgs false
theorem mapM_get {α β : Type} {f : α → Option β} : ∀ (l : List α) (r : List β), l.mapM f = some r → r.length = l.length ∧ ∀ (i : Nat) (a : α) (b : β), l[i]? = some a → r[i]? = some b → f a = some b
  | [], r, h => by
    simp at h
    subst h
    exact ⟨rfl, fun i a b h1 => by simp at h1⟩
  | a :: l, r, h => by
    rw [List.mapM_cons] at h
    simp only [Option.bind_eq_bind, Option.bind_eq_some_iff] at h
    obtain ⟨b, hb, rs, hrs, e⟩ := h
    have e' : b :: rs = r := by simpa using e
    subst e'
    obtain ⟨h1, h2⟩ := mapM_get l rs hrs
    refine ⟨by simp [h1], fun i a' b' ha' hb' => ?_⟩
    cases i with
    | zero => simp at ha' hb'; subst ha' hb'; exact hb
    | succ i => exact h2 i a' b' (by simpa using ha') (by simpa using hb')
theorem cells_at {w : World} {base : Nat} {a : Addr} {n : Nat} {c : List Value} (h : w.cells? base a n = some c) : c.length = n ∧ ∀ i u, c[i]? = some u → w.cell? (a.add i) = some u := by
  unfold World.cells? at h
  split at h
  · obtain ⟨h1, h2⟩ := mapM_get _ _ h
    rw [List.length_range] at h1
    refine ⟨h1, fun i u hu => h2 i i u ?_ hu⟩
    have hi : i < n := by have := (List.getElem?_eq_some_iff.1 hu).1; omega
    rw [List.getElem?_range hi]
  · cases h
theorem pick {α : Type} (p : Nat → α → Prop) : ∀ n, (∀ i, i < n → ∃ a, p i a) → ∃ xs : List α, xs.length = n ∧ ∀ i a, xs[i]? = some a → p i a
  | 0, _ => ⟨[], rfl, fun i a h => by simp at h⟩
  | n + 1, h => by
    obtain ⟨xs, h1, h2⟩ := pick p n (fun i hi => h i (by omega))
    obtain ⟨a, ha⟩ := h n (by omega)
    refine ⟨xs ++ [a], by simp [h1], fun i b hb => ?_⟩
    by_cases hi : i < xs.length
    · rw [List.getElem?_append_left hi] at hb
      exact h2 i b hb
    · rw [List.getElem?_append_right (by omega)] at hb
      have hi0 : i - xs.length = 0 := by
        by_cases h0 : i - xs.length = 0
        · exact h0
        · rw [List.getElem?_eq_none (by simp; omega)] at hb; cases hb
      rw [hi0] at hb
      simp at hb
      subst hb
      have : i = n := by omega
      subst this
      exact ha
section
variable {H : Type} (enc : TypeId × Value → H) (W : World)
/-- What is read of a type is of a kind. -/
def Opens {α : Type} (t : TypeId) (d : Kd α) : Prop := ∀ (fuel : Nat) (cs : List Value) (x : DataW H × List MemPlace), DataW.trod enc Try.prog W 0 (fun _ => true) true fuel t cs = some x → ∃ a, d.K W a cs
theorem opens29 : Opens enc W 29 k29 := fun fuel cs x h => by
  obtain ⟨xs, n, _, _, hl, hxs, hf⟩ := DataW.trod_struct Try.underlying29 h
  rw [show Try.prog.cellsOf 29 = 5 by kernel_rfl] at hl
  obtain ⟨c0, c1, c2, c3, c4, rfl⟩ : ∃ c0 c1 c2 c3 c4, cs = [c0, c1, c2, c3, c4] := by
    match cs, hl with
    | [c0, c1, c2, c3, c4], _ => exact ⟨c0, c1, c2, c3, c4, rfl⟩
  obtain ⟨y0, y1, y2, y3, y4, rfl⟩ : ∃ y0 y1 y2 y3 y4, xs = [y0, y1, y2, y3, y4] := by
    match xs, hxs with
    | [y0, y1, y2, y3, y4], _ => exact ⟨y0, y1, y2, y3, y4, rfl⟩
  have z0 : Try.prog.cellsOf 25 = 1 := by kernel_rfl
  have g0 : DataW.trod enc Try.prog W 0 (fun _ => true) true n 25 [c0] = some y0 := by
    have h_ := hf 0 { name := "Kind", type := 25, offset := 0, embedded := false, tag := "", pkgPath := "", byteOffset := 0 } rfl
    simp only [z0] at h_
    exact h_
  have z1 : Try.prog.cellsOf 5 = 1 := by kernel_rfl
  have g1 : DataW.trod enc Try.prog W 0 (fun _ => true) true n 5 [c1] = some y1 := by
    have h_ := hf 1 { name := "A", type := 5, offset := 1, embedded := false, tag := "", pkgPath := "", byteOffset := 1 } rfl
    simp only [z1] at h_
    exact h_
  have z2 : Try.prog.cellsOf 5 = 1 := by kernel_rfl
  have g2 : DataW.trod enc Try.prog W 0 (fun _ => true) true n 5 [c2] = some y2 := by
    have h_ := hf 2 { name := "Rights", type := 5, offset := 2, embedded := false, tag := "", pkgPath := "", byteOffset := 2 } rfl
    simp only [z2] at h_
    exact h_
  have z3 : Try.prog.cellsOf 26 = 1 := by kernel_rfl
  have g3 : DataW.trod enc Try.prog W 0 (fun _ => true) true n 26 [c3] = some y3 := by
    have h_ := hf 3 { name := "Handle", type := 26, offset := 3, embedded := false, tag := "", pkgPath := "", byteOffset := 4 } rfl
    simp only [z3] at h_
    exact h_
  have z4 : Try.prog.cellsOf 27 = 1 := by kernel_rfl
  have g4 : DataW.trod enc Try.prog W 0 (fun _ => true) true n 27 [c4] = some y4 := by
    have h_ := hf 4 { name := "Payload", type := 27, offset := 4, embedded := false, tag := "", pkgPath := "", byteOffset := 8 } rfl
    simp only [z4] at h_
    exact h_
  obtain ⟨n0, e0, _, _⟩ := DataW.trod_int Try.underlying25 g0
  obtain rfl : c0 = _ := by simpa using e0
  obtain ⟨n1, e1, _, _⟩ := DataW.trod_int Try.underlying5 g1
  obtain rfl : c1 = _ := by simpa using e1
  obtain ⟨n2, e2, _, _⟩ := DataW.trod_int Try.underlying5 g2
  obtain rfl : c2 = _ := by simpa using e2
  obtain ⟨n3, e3, _, _⟩ := DataW.trod_int Try.underlying26 g3
  obtain rfl : c3 = _ := by simpa using e3
  obtain ⟨n4, e4, _, _⟩ := DataW.trod_int Try.underlying27 g4
  obtain rfl : c4 = _ := by simpa using e4
  exact ⟨⟨n0, n1, n2, n3, n4⟩, k29_mk W ⟨n0, n1, n2, n3, n4⟩⟩
end
section
variable {H : Type} {enc : TypeId × Value → H} {W : World} {v : Value} {d : DataW H} {p : List MemPlace} {r0 : Reach} {base : Nat}
end
end Go.Proofs.Ytkkgnmfahhkajaa.Q
