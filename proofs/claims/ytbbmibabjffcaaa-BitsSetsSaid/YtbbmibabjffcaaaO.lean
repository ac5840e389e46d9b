/- Layer 1: arguments that are rows of numbers, as they are read. -/
import Derived.Test.YtbbmibabjffcaaaQx0
import Derived.ChangeArms
import Derived.DataElems
namespace Go.Proofs.Ytbbmibabjffcaaa.Q
open Go.RowKit Go.Proofs.YtbbmibabjffcaaaW.PrintWords
set_option linter.unusedVariables false
theorem mapM_get {α β : Type} {f : α → Option β} : ∀ (l : List α) (r : List β), l.mapM f = some r → r.length = l.length ∧ ∀ (i : Nat) (a : α) (b : β), l[i]? = some a → r[i]? = some b → f a = some b
  | [], r, h => by
    simp at h
    subst h
    exact ⟨rfl, fun i a b h1 => by simp at h1⟩
  | a :: l, r, h => by
    rw [List.mapM_cons] at h
    simp only [Option.bind_eq_bind, Option.bind_eq_some_iff] at h
    obtain ⟨b, hb, rs, hrs, e⟩ := h
    have e' : b :: rs = r := by simpa using e
    subst e'
    obtain ⟨h1, h2⟩ := mapM_get l rs hrs
    refine ⟨by simp [h1], fun i a' b' ha' hb' => ?_⟩
    cases i with
    | zero => simp at ha' hb'; subst ha' hb'; exact hb
    | succ i => exact h2 i a' b' (by simpa using ha') (by simpa using hb')
theorem cells_at {w : World} {base : Nat} {a : Addr} {n : Nat} {c : List Value} (h : w.cells? base a n = some c) : c.length = n ∧ ∀ i u, c[i]? = some u → w.cell? (a.add i) = some u := by
  unfold World.cells? at h
  split at h
  · obtain ⟨h1, h2⟩ := mapM_get _ _ h
    rw [List.length_range] at h1
    refine ⟨h1, fun i u hu => h2 i i u ?_ hu⟩
    have hi : i < n := by have := (List.getElem?_eq_some_iff.1 hu).1; omega
    rw [List.getElem?_range hi]
  · cases h
theorem pick {α : Type} (p : Nat → α → Prop) : ∀ n, (∀ i, i < n → ∃ a, p i a) → ∃ xs : List α, xs.length = n ∧ ∀ i a, xs[i]? = some a → p i a
  | 0, _ => ⟨[], rfl, fun i a h => by simp at h⟩
  | n + 1, h => by
    obtain ⟨xs, h1, h2⟩ := pick p n (fun i hi => h i (by omega))
    obtain ⟨a, ha⟩ := h n (by omega)
    refine ⟨xs ++ [a], by simp [h1], fun i b hb => ?_⟩
    by_cases hi : i < xs.length
    · rw [List.getElem?_append_left hi] at hb
      exact h2 i b hb
    · rw [List.getElem?_append_right (by omega)] at hb
      have hi0 : i - xs.length = 0 := by
        by_cases h0 : i - xs.length = 0
        · exact h0
        · rw [List.getElem?_eq_none (by simp; omega)] at hb; cases hb
      rw [hi0] at hb
      simp at hb
      subst hb
      have : i = n := by omega
      subst this
      exact ha
section
variable {H : Type} (enc : TypeId × Value → H) (W : World)
/-- What is read of a type is of a kind. -/
def Opens {α : Type} (t : TypeId) (d : Kd α) : Prop := ∀ (fuel : Nat) (cs : List Value) (x : DataW H × List MemPlace), DataW.trod enc Try.prog W 0 (fun _ => true) true fuel t cs = some x → ∃ a, d.K W a cs
theorem opens_int {t : TypeId} {k : IntKind} (ht : Try.prog.underlying t = some (.int k)) : Opens enc W t (Kd.int k) := fun fuel cs x h => by
  obtain ⟨n, rfl, _, _⟩ := DataW.trod_int ht h
  exact ⟨n, rfl⟩
theorem opens_bool {t : TypeId} (ht : Try.prog.underlying t = some .bool) : Opens enc W t Kd.bool := fun fuel cs x h => by
  obtain ⟨b, rfl, _⟩ := DataW.trod_bool ht h
  exact ⟨b, rfl⟩
theorem opens_slice {α : Type} {t e : TypeId} {d : Kd α} (ht : Try.prog.underlying t = some (.slice e)) (hsz : Try.prog.cellsOf e = d.sz) (hd : Opens enc W e d) : Opens enc W t (Kd.slice e d) := fun fuel cs x h => by
  rcases DataW.trod_slice ht h with ⟨rfl, _⟩ | ⟨a, len, cap, elems, rest, n, _, rfl, _, _, hl, hm, hlen, hel, _⟩
  · exact ⟨[], none, 0, rfl, Nat.le_refl _, rfl, by simp, fun h => absurd h (by simp)⟩
  · obtain ⟨xs, h1, h2⟩ := pick (fun i a' => ∃ c, W.cells? 0 (a.add (i * d.sz)) d.sz = some c ∧ d.K W a' c) len (fun i hi => by
      have h3 := hel i hi
      rw [List.getElem?_eq_getElem (show i < elems.length by omega), hsz, Option.bind_eq_some_iff] at h3
      obtain ⟨c, hc, hx⟩ := h3
      obtain ⟨a', ha'⟩ := hd n c _ hx
      exact ⟨a', c, hc, ha'⟩)
    have hmax : maxLen ≤ 9223372036854775807 := by decide
    refine ⟨xs, some a, cap, by rw [h1], by omega, rfl, by omega, fun _ => ⟨a, rfl, fun j p hj => ?_⟩⟩
    obtain ⟨c, hc, hK⟩ := h2 j p hj
    obtain ⟨hcl, hcell⟩ := cells_at hc
    refine ⟨c, hcl, hK, fun i u hu => ?_⟩
    have := hcell i u hu
    rwa [Addr.add_add] at this
theorem opens_ints : Opens enc W 22 (Kd.slice 3 (Kd.int .i64)) := opens_slice enc W Try.underlying22 (by kernel_rfl) (opens_int enc W Try.underlying3)
end
end Go.Proofs.Ytbbmibabjffcaaa.Q
