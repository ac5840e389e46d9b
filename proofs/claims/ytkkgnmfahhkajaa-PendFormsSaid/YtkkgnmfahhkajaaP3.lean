/- Layer 18, plain: Get, Set, Work, Same, New. -/
import Derived.Test.YtkkgnmfahhkajaaP2
import Derived.Test.YtkkgnmfahhkajaaQx3
import Derived.Test.YtkkgnmfahhkajaaQx7
import Derived.Test.YtkkgnmfahhkajaaQx13
import Derived.Test.YtkkgnmfahhkajaaQx14
import Derived.Test.YtkkgnmfahhkajaaQx15
namespace Go.Proofs.Ytkkgnmfahhkajaa.Q
open Go.RowKit Go.Proofs.YtkkgnmfahhkajaaW.PrintWords Go.Proofs.YtkkgnmfahhkajaaW.PrintMore
set_option linter.unusedVariables false
set_option linter.unusedSimpArgs false
theorem place_cases (l : List S42) (n : Int) : placeF l n = -1 ∨ ∃ i : Nat, placeF l n = (i : Int) ∧ ∃ h : i < l.length, l[i].f0 = n := by
  unfold placeF
  cases h : l.findIdx? (fun o => decide (o.f0 = n)) with
  | none => exact .inl rfl
  | some i =>
    rw [List.findIdx?_eq_some_iff_getElem] at h
    obtain ⟨hi, h1, h2⟩ := h
    exact .inr ⟨i, rfl, hi, by simpa using h1⟩
def flatG (v : S42 × Bool) : Int × Int × Int × Int × Int × Int × Int × Int × Int × Int × Int × Int × Bool := (v.1.f0, v.1.f1.f0, v.1.f1.f1, v.1.f1.f2, v.1.f1.f3, v.1.f1.f4, v.1.f2, v.1.f3, v.1.f4, v.1.f5.f0, v.1.f5.f1, v.1.f6, v.2)
/-- What Get tells. -/
def getV (a b : Int) (l : List S42) (n : Int) : S42 × Bool := if chkV a b l = 0 then (if placeF l n < 0 then (z42, false) else (rd_T42 l (placeF l n), true)) else (z42, false)
theorem get_a (a b n : Int) (l : List S42) (hl : l.length ≤ 10) (k : Nat) (hk : 20 ≤ k) : pend_Get.f k a b l n = some (flatG (getV a b l n)) := by
  unfold pend_Get.f getV pend_place.f
  rw [check_a a b l hl k hk]
  simp only [Option.bind_some]
  by_cases h : chkV a b l = 0
  · rw [if_pos h, if_pos h]
    rcases place_cases l n with e | ⟨i, e, hi, _⟩
    · rw [e, if_pos (by decide), if_pos (by decide)]; rfl
    · have e0 : ¬ (i : Int) < 0 := by omega
      have e1 : (0 : Int) ≤ (i : Int) := by omega
      have e2 : (i : Int) < (l.length : Int) := by omega
      rw [e, if_neg e0, if_neg e0, if_pos e1, if_pos e2]; rfl
  · rw [if_neg h, if_neg h]; rfl
def reqEq (r s : S29) : Bool := r.f0 == s.f0 && (r.f1 == s.f1 && (r.f2 == s.f2 && (r.f3 == s.f3 && (r.f4 == s.f4))))
/-- What Set tells. -/
def setV (a b : Int) (l : List S42) (o : S42) : Int × Int × List S42 × Int :=
  if chkV a b l = 0 then (if placeF l o.f0 < 0 then (0, 0, [], 182) else if o.f2 = 7 then (a, b, l.take (placeF l o.f0).toNat ++ l.drop ((placeF l o.f0).toNat + 1), 0) else if leftV o = 0 then (0, 0, [], 1) else if reqEq o.f1 (rd_T42 l (placeF l o.f0)).f1 = true then (a, b, l.set (placeF l o.f0).toNat o, 0) else (0, 0, [], 1)) else (0, 0, [], 180)
/-- The sum of what is left. -/
def sumV (x : Int) : List S42 → Int
  | [] => x
  | o :: t => sumV (wrap64 (x + leftV o)) t
theorem work_a_l (l : List S42) (hl : l.length ≤ 1000) : ∀ (d i k : Nat) (x : Int), l.length - i ≤ d → i ≤ l.length → d + 6 ≤ k → pend_Work.l0 k x l (l.length : Int) (i : Int) = some (sumV x (l.drop i)) := by
  intro d
  induction d with
  | zero =>
    intro i k x h hi hk
    obtain ⟨k, rfl⟩ : ∃ m, k = m + 1 := ⟨k - 1, by omega⟩
    simp only [pend_Work.l0]
    rw [if_neg (by omega), List.drop_eq_nil_of_le (by omega)]; rfl
  | succ d ih =>
    intro i k x h hi hk
    obtain ⟨k, rfl⟩ : ∃ m, k = m + 1 := ⟨k - 1, by omega⟩
    simp only [pend_Work.l0]
    by_cases h0 : i < l.length
    · have hw : wrap64 ((i : Int) + 1) = ((i + 1 : Nat) : Int) := (w64 (by omega) (by omega)).trans (by omega)
      rw [if_pos (by omega), if_pos (by omega), if_pos (by omega), drop_cons h0, rd_get h0, left_a' _ k (by omega), hw]
      simp only [Option.bind_some]
      exact ih (i + 1) k _ (by omega) (by omega) (by omega)
    · rw [if_neg (by omega), List.drop_eq_nil_of_le (by omega)]; rfl
def workV (a b : Int) (l : List S42) : Int := if chkV a b l = 0 then sumV 0 l else 0
theorem work_a (a b : Int) (l : List S42) (hl : l.length ≤ 10) (k : Nat) (hk : 40 ≤ k) : pend_Work.f k a b l = some (workV a b l) := by
  unfold pend_Work.f workV
  rw [check_a a b l hl k (by omega)]
  simp only [Option.bind_some]
  by_cases h : chkV a b l = 0
  · rw [if_pos h, if_pos h]
    exact work_a_l l (by omega) 10 0 k 0 (by omega) (by omega) (by omega)
  · rw [if_neg h, if_neg h]
/-- Two operations that are alike. -/
def eq42 (x y : S42) : Bool := x.f0 == y.f0 && ((x.f1.f0 == y.f1.f0 && (x.f1.f1 == y.f1.f1 && (x.f1.f2 == y.f1.f2 && (x.f1.f3 == y.f1.f3 && (x.f1.f4 == y.f1.f4))))) && (x.f2 == y.f2 && (x.f3 == y.f3 && (x.f4 == y.f4 && ((x.f5.f0 == y.f5.f0 && (x.f5.f1 == y.f5.f1)) && (x.f6 == y.f6))))))
theorem bools_ne (b0 b1 b2 b3 b4 b5 b6 b7 b8 b9 ba bb : Bool) : (!b0 || ((!b1 || (!b2 || (!b3 || (!b4 || (!b5))))) || (!b6 || (!b7 || (!b8 || ((!b9 || (!ba)) || (!bb))))))) = !(b0 && ((b1 && (b2 && (b3 && (b4 && b5)))) && (b6 && (b7 && (b8 && ((b9 && ba) && bb)))))) := by
  simp only [Bool.not_and]
theorem ne42 (x y : S42) : (!(x.f0 == y.f0) || ((!(x.f1.f0 == y.f1.f0) || (!(x.f1.f1 == y.f1.f1) || (!(x.f1.f2 == y.f1.f2) || (!(x.f1.f3 == y.f1.f3) || (!(x.f1.f4 == y.f1.f4)))))) || (!(x.f2 == y.f2) || (!(x.f3 == y.f3) || (!(x.f4 == y.f4) || ((!(x.f5.f0 == y.f5.f0) || (!(x.f5.f1 == y.f5.f1))) || (!(x.f6 == y.f6)))))))) = !(eq42 x y) := bools_ne _ _ _ _ _ _ _ _ _ _ _ _
theorem eq42_self (x : S42) : eq42 x x = true := by simp [eq42]
def eqL : List S42 → List S42 → Bool
  | x :: s, y :: t => eq42 x y && eqL s t
  | _, _ => true
theorem eqL_self : ∀ l : List S42, eqL l l = true
  | [] => rfl
  | x :: s => by rw [eqL, eq42_self, eqL_self s]; rfl
def sameV (a b : Int) (l : List S42) (a' b' : Int) (l' : List S42) : Bool := if a = a' ∧ b = b' ∧ l.length = l'.length then eqL l l' else false
theorem sameV_self (a b : Int) (l : List S42) : sameV a b l a b l = true := by
  unfold sameV
  rw [if_pos ⟨rfl, rfl, rfl⟩, eqL_self]
theorem same_a_l (l l' : List S42) (hl : l.length ≤ 1000) (hll : l.length = l'.length) : ∀ (d i k : Nat), l.length - i ≤ d → i ≤ l.length → d + 1 ≤ k → api_Op_38.l0 k l l' (l.length : Int) (i : Int) = some (eqL (l.drop i) (l'.drop i)) := by
  intro d
  induction d with
  | zero =>
    intro i k h hi hk
    obtain ⟨k, rfl⟩ : ∃ m, k = m + 1 := ⟨k - 1, by omega⟩
    simp only [api_Op_38.l0]
    rw [if_neg (by omega), List.drop_eq_nil_of_le (by omega)]; rfl
  | succ d ih =>
    intro i k h hi hk
    obtain ⟨k, rfl⟩ : ∃ m, k = m + 1 := ⟨k - 1, by omega⟩
    simp only [api_Op_38.l0]
    by_cases h0 : i < l.length
    · have hw : wrap64 ((i : Int) + 1) = ((i + 1 : Nat) : Int) := (w64 (by omega) (by omega)).trans (by omega)
      have h1 : i < l'.length := by omega
      have e := ih (i + 1) k (by omega) (by omega) (by omega)
      rw [if_pos (by omega), if_pos (by omega), if_pos (by omega), if_pos (by omega), drop_cons h0, drop_cons h1, rd_get h0, rd_get h1, hw, ne42, e]
      simp only [eqL]
      cases eq42 l[i] l'[i] <;> rfl
    · rw [if_neg (by omega), List.drop_eq_nil_of_le (by omega)]; rfl
theorem same_b_l (a b a' b' : Int) (l l' : List S42) (hl : l.length ≤ 1000) (hll : l.length = l'.length) : ∀ (d i k : Nat), l.length - i ≤ d → i ≤ l.length → d + 1 ≤ k → rampartref18_Same.l0 k (i : Int) a b l a' b' l' = some (eqL (l.drop i) (l'.drop i)) := by
  intro d
  induction d with
  | zero =>
    intro i k h hi hk
    obtain ⟨k, rfl⟩ : ∃ m, k = m + 1 := ⟨k - 1, by omega⟩
    simp only [rampartref18_Same.l0]
    rw [if_neg (by omega), List.drop_eq_nil_of_le (by omega)]; rfl
  | succ d ih =>
    intro i k h hi hk
    obtain ⟨k, rfl⟩ : ∃ m, k = m + 1 := ⟨k - 1, by omega⟩
    simp only [rampartref18_Same.l0]
    by_cases h0 : i < l.length
    · have hw : wrap64 ((i : Int) + 1) = ((i + 1 : Nat) : Int) := (w64 (by omega) (by omega)).trans (by omega)
      have h1 : i < l'.length := by omega
      have e := ih (i + 1) k (by omega) (by omega) (by omega)
      rw [if_pos (by omega), if_pos (by omega), if_pos (by omega), drop_cons h0, drop_cons h1, rd_get h0, rd_get h1, hw, ne42, e]
      simp only [eqL]
      cases eq42 l[i] l'[i] <;> rfl
    · rw [if_neg (by omega), List.drop_eq_nil_of_le (by omega)]; rfl
theorem same_a (a b : Int) (l : List S42) (a' b' : Int) (l' : List S42) (hl : l.length ≤ 15) (k : Nat) (hk : 20 ≤ k) : pend_Same.f k a b l a' b' l' = some (sameV a b l a' b' l') := by
  unfold pend_Same.f api_Op_38.f sameV
  by_cases h1 : a = a'
  · rw [if_pos h1]
    by_cases h2 : b = b'
    · rw [if_pos h2]
      by_cases h3 : l.length = l'.length
      · have e := same_a_l l l' (by omega) h3 15 0 k (by omega) (by omega) (by omega)
        rw [show ((0 : Nat) : Int) = 0 from rfl] at e
        rw [if_pos (by omega), if_pos ⟨h1, h2, h3⟩, e]; rfl
      · rw [if_neg (by omega), if_neg (fun h => h3 h.2.2)]; rfl
    · rw [if_neg h2, if_neg (fun h => h2 h.2.1)]
  · rw [if_neg h1, if_neg (fun h => h1 h.1)]
theorem same_b (a b : Int) (l : List S42) (a' b' : Int) (l' : List S42) (hl : l.length ≤ 15) (k : Nat) (hk : 20 ≤ k) : rampartref18_Same.f k a b l a' b' l' = some (sameV a b l a' b' l') := by
  unfold rampartref18_Same.f sameV
  by_cases h1 : a = a'
  · rw [if_pos h1]
    by_cases h2 : b = b'
    · rw [if_pos h2]
      by_cases h3 : l.length = l'.length
      · have e := same_b_l a b a' b' l l' (by omega) h3 15 0 k (by omega) (by omega) (by omega)
        rw [show ((0 : Nat) : Int) = 0 from rfl] at e
        rw [if_pos (by omega), if_pos ⟨h1, h2, h3⟩, e]; rfl
      · rw [if_neg (by omega), if_neg (fun h => h3 h.2.2)]
    · rw [if_neg h2, if_neg (fun h => h2 h.2.1)]
  · rw [if_neg h1, if_neg (fun h => h1 h.1)]
theorem newp_a (n : Int) (k : Nat) (hk : 20 ≤ k) : pend_New.f k n = some (if 1 ≤ n ∧ n ≤ 4 then (n, 1, [], 0) else (0, 0, [], 180)) := by
  unfold pend_New.f
  rw [check_a n 1 [] (by simp) k hk]
  simp only [Option.bind_some]
  by_cases h : 1 ≤ n ∧ n ≤ 4
  · rw [if_pos h, if_pos]
    unfold chkV
    rw [if_pos ⟨h.1, h.2, by omega, by omega, by simp only [List.length_nil]; omega, rfl⟩]
  · rw [if_neg h, if_neg]
    unfold chkV
    rw [if_neg (fun g => h ⟨g.1, g.2.1⟩)]
    decide
theorem newp_b (n : Int) : rampartref18_New.f n = some (if 1 ≤ n ∧ n ≤ 4 then (n, 1, [], 0) else (0, 0, [], 180)) := by
  unfold rampartref18_New.f
  by_cases h1 : n < 1
  · rw [if_pos h1, if_neg (by omega)]
  · rw [if_neg h1]
    by_cases h2 : n > 4
    · rw [if_pos h2, if_neg (by omega)]
    · rw [if_neg h2, if_pos ⟨by omega, by omega⟩]
end Go.Proofs.Ytkkgnmfahhkajaa.Q
