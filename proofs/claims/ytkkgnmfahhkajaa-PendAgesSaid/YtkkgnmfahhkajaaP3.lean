/- Layer 18, plain: Get, Set, Work, Same, New. -/
import Derived.Test.YtkkgnmfahhkajaaP2
import Derived.Test.YtkkgnmfahhkajaaQx0
import Derived.Test.YtkkgnmfahhkajaaQx2
import Derived.Test.YtkkgnmfahhkajaaQx7
import Derived.Test.YtkkgnmfahhkajaaQx10
import Derived.Test.YtkkgnmfahhkajaaQx8
import Derived.Test.YtkkgnmfahhkajaaQx5
import Derived.Test.YtkkgnmfahhkajaaV
import Derived.Test.YtkkgnmfahhkajaaQx1
import Derived.Test.YtkkgnmfahhkajaaQx9
namespace Go.Proofs.Ytkkgnmfahhkajaa.Q
open Go.RowKit Go.Proofs.YtkkgnmfahhkajaaW.PrintWords Go.Proofs.YtkkgnmfahhkajaaW.PrintMore
set_option linter.unusedVariables false
set_option linter.unusedSimpArgs false
theorem place_cases (l : List S42) (n : Int) : placeF l n = -1 ∨ ∃ i : Nat, placeF l n = (i : Int) ∧ ∃ h : i < l.length, l[i].f0 = n := by
  unfold placeF
  cases h : l.findIdx? (fun o => decide (o.f0 = n)) with
  | none => exact .inl rfl
  | some i =>
    rw [List.findIdx?_eq_some_iff_getElem] at h
    obtain ⟨hi, h1, h2⟩ := h
    exact .inr ⟨i, rfl, hi, by simpa using h1⟩
def flatG (v : S42 × Bool) : Int × Int × Int × Int × Int × Int × Int × Int × Int × Int × Int × Int × Bool := (v.1.f0, v.1.f1.f0, v.1.f1.f1, v.1.f1.f2, v.1.f1.f3, v.1.f1.f4, v.1.f2, v.1.f3, v.1.f4, v.1.f5.f0, v.1.f5.f1, v.1.f6, v.2)
/-- What Get tells. -/
def getV (a b : Int) (l : List S42) (n : Int) : S42 × Bool := if chkV a b l = 0 then (if placeF l n < 0 then (z42, false) else (rd_T42 l (placeF l n), true)) else (z42, false)
theorem get_a (a b n : Int) (l : List S42) (hl : l.length ≤ 10) (k : Nat) (hk : 20 ≤ k) : pend_Get.f k a b l n = some (flatG (getV a b l n)) := by
  unfold pend_Get.f getV pend_place.f
  rw [check_a a b l hl k hk]
  simp only [Option.bind_some]
  by_cases h : chkV a b l = 0
  · rw [if_pos h, if_pos h]
    rcases place_cases l n with e | ⟨i, e, hi, _⟩
    · rw [e, if_pos (by decide), if_pos (by decide)]; rfl
    · have e0 : ¬ (i : Int) < 0 := by omega
      have e1 : (0 : Int) ≤ (i : Int) := by omega
      have e2 : (i : Int) < (l.length : Int) := by omega
      rw [e, if_neg e0, if_neg e0, if_pos e1, if_pos e2]; rfl
  · rw [if_neg h, if_neg h]; rfl
def reqEq (r s : S29) : Bool := r.f0 == s.f0 && (r.f1 == s.f1 && (r.f2 == s.f2 && (r.f3 == s.f3 && (r.f4 == s.f4))))
/-- What Set tells. -/
def setV (a b : Int) (l : List S42) (o : S42) : Int × Int × List S42 × Int :=
  if chkV a b l = 0 then (if placeF l o.f0 < 0 then (0, 0, [], 182) else if o.f2 = 7 then (a, b, l.take (placeF l o.f0).toNat ++ l.drop ((placeF l o.f0).toNat + 1), 0) else if leftV o = 0 then (0, 0, [], 1) else if reqEq o.f1 (rd_T42 l (placeF l o.f0)).f1 = true then (a, b, l.set (placeF l o.f0).toNat o, 0) else (0, 0, [], 1)) else (0, 0, [], 180)
/-- The sum of what is left. -/
def sumV (x : Int) : List S42 → Int
  | [] => x
  | o :: t => sumV (wrap64 (x + leftV o)) t
theorem work_a_l (l : List S42) (hl : l.length ≤ 1000) : ∀ (d i k : Nat) (x : Int), l.length - i ≤ d → i ≤ l.length → d + 6 ≤ k → pend_Work.l0 k x l (l.length : Int) (i : Int) = some (sumV x (l.drop i)) := by
  intro d
  induction d with
  | zero =>
    intro i k x h hi hk
    obtain ⟨k, rfl⟩ : ∃ m, k = m + 1 := ⟨k - 1, by omega⟩
    simp only [pend_Work.l0]
    rw [if_neg (by omega), List.drop_eq_nil_of_le (by omega)]; rfl
  | succ d ih =>
    intro i k x h hi hk
    obtain ⟨k, rfl⟩ : ∃ m, k = m + 1 := ⟨k - 1, by omega⟩
    simp only [pend_Work.l0]
    by_cases h0 : i < l.length
    · have hw : wrap64 ((i : Int) + 1) = ((i + 1 : Nat) : Int) := (w64 (by omega) (by omega)).trans (by omega)
      rw [if_pos (by omega), if_pos (by omega), if_pos (by omega), drop_cons h0, rd_get h0, left_a' _ k (by omega), hw]
      simp only [Option.bind_some]
      exact ih (i + 1) k _ (by omega) (by omega) (by omega)
    · rw [if_neg (by omega), List.drop_eq_nil_of_le (by omega)]; rfl
def workV (a b : Int) (l : List S42) : Int := if chkV a b l = 0 then sumV 0 l else 0
theorem work_a (a b : Int) (l : List S42) (hl : l.length ≤ 10) (k : Nat) (hk : 40 ≤ k) : pend_Work.f k a b l = some (workV a b l) := by
  unfold pend_Work.f workV
  rw [check_a a b l hl k (by omega)]
  simp only [Option.bind_some]
  by_cases h : chkV a b l = 0
  · rw [if_pos h, if_pos h]
    exact work_a_l l (by omega) 10 0 k 0 (by omega) (by omega) (by omega)
  · rw [if_neg h, if_neg h]
theorem newp_a (n : Int) (k : Nat) (hk : 20 ≤ k) : pend_New.f k n = some (if 1 ≤ n ∧ n ≤ 4 then (n, 1, [], 0) else (0, 0, [], 180)) := by
  unfold pend_New.f
  rw [check_a n 1 [] (by simp) k hk]
  simp only [Option.bind_some]
  by_cases h : 1 ≤ n ∧ n ≤ 4
  · rw [if_pos h, if_pos]
    unfold chkV
    rw [if_pos ⟨h.1, h.2, by omega, by omega, by simp only [List.length_nil]; omega, rfl⟩]
  · rw [if_neg h, if_neg]
    unfold chkV
    rw [if_neg (fun g => h ⟨g.1, g.2.1⟩)]
    decide
end Go.Proofs.Ytkkgnmfahhkajaa.Q
