/- Layer 18, plain: Check, Full, Add: the program's and the document's answer are the same. -/
import Derived.Test.YtkkgnmfahhkajaaP1
import Derived.Test.YtkkgnmfahhkajaaF3
import Derived.Test.YtkkgnmfahhkajaaF4
import Derived.Test.YtkkgnmfahhkajaaQx5
import Derived.Test.YtkkgnmfahhkajaaQx6
import Derived.Test.YtkkgnmfahhkajaaQx10
import Derived.Test.YtkkgnmfahhkajaaQx0
import Derived.Test.YtkkgnmfahhkajaaQx2
import Derived.Test.YtkkgnmfahhkajaaQx7
import Derived.Test.YtkkgnmfahhkajaaQx8
import Derived.Test.YtkkgnmfahhkajaaV
namespace Go.Proofs.Ytkkgnmfahhkajaa.Q
open Go.RowKit Go.Proofs.YtkkgnmfahhkajaaW.PrintWords Go.Proofs.YtkkgnmfahhkajaaW.PrintMore
set_option linter.unusedVariables false
set_option linter.unusedSimpArgs false
theorem rd_get {l : List S42} {i : Nat} (h : i < l.length) : rd_T42 l (i : Int) = l[i] := rd_is l i h
theorem drop_cons {l : List S42} {i : Nat} (h : i < l.length) : l.drop i = l[i] :: l.drop (i + 1) := List.drop_eq_getElem_cons h
/-- Each may be, numbers rise, above last, below b. -/
def numOk (b last : Int) : List S42 → Bool
  | [] => true
  | o :: t => !(leftV o == 0) && decide (last < o.f0) && decide (o.f0 < b) && numOk b o.f0 t
theorem num_a (a b : Int) (l : List S42) (hl : l.length ≤ 1000) : ∀ (d i k : Nat) (last : Int), l.length - i ≤ d → i ≤ l.length → d + 6 ≤ k → pend_numbered.l0 k last l (l.length : Int) (i : Int) a b l = some (numOk b last (l.drop i)) := by
  intro d
  induction d with
  | zero =>
    intro i k last h hi hk
    obtain ⟨k, rfl⟩ : ∃ m, k = m + 1 := ⟨k - 1, by omega⟩
    simp only [pend_numbered.l0]
    rw [if_neg (by omega), List.drop_eq_nil_of_le (by omega)]; rfl
  | succ d ih =>
    intro i k last h hi hk
    obtain ⟨k, rfl⟩ : ∃ m, k = m + 1 := ⟨k - 1, by omega⟩
    simp only [pend_numbered.l0]
    by_cases h0 : i < l.length
    · have hw : wrap64 ((i : Int) + 1) = ((i + 1 : Nat) : Int) := (w64 (by omega) (by omega)).trans (by omega)
      rw [if_pos (by omega), if_pos (by omega), if_pos (by omega), drop_cons h0, rd_get h0, left_a' _ k (by omega), hw]
      have e := ih (i + 1) k l[i].f0 (by omega) (by omega) (by omega)
      simp only [Option.bind_some, numOk]
      by_cases h1 : leftV l[i] = 0
      · rw [if_pos h1, h1]; rfl
      · rw [if_neg h1, show (leftV l[i] == 0) = false from beq_eq_false_iff_ne.2 h1]
        by_cases h2 : l[i].f0 ≤ last
        · rw [if_pos h2, show decide (last < l[i].f0) = false from decide_eq_false (by omega)]; rfl
        · rw [if_neg h2, show decide (last < l[i].f0) = true from decide_eq_true (by omega)]
          by_cases h3 : l[i].f0 ≥ b
          · rw [if_pos h3, show decide (l[i].f0 < b) = false from decide_eq_false (by omega)]; rfl
          · rw [if_neg h3, show decide (l[i].f0 < b) = true from decide_eq_true (by omega), e]; rfl
    · rw [if_neg (by omega), List.drop_eq_nil_of_le (by omega)]; rfl
/-- The number ahead of place i. -/
def prevV (l : List S42) (i : Nat) : Int := match i with
  | 0 => 0
  | j + 1 => (rd_T42 l (j : Int)).f0
theorem num_b (a b : Int) (l : List S42) (hl : l.length ≤ 1000) : ∀ (d i k : Nat), l.length - i ≤ d → i ≤ l.length → d + 6 ≤ k → rampartref18_Check.l0 k (i : Int) a b l = some (bif numOk b (prevV l i) (l.drop i) then 0 else 180) := by
  intro d
  induction d with
  | zero =>
    intro i k h hi hk
    obtain ⟨k, rfl⟩ : ∃ m, k = m + 1 := ⟨k - 1, by omega⟩
    simp only [rampartref18_Check.l0]
    rw [if_neg (by omega), List.drop_eq_nil_of_le (by omega)]; rfl
  | succ d ih =>
    intro i k h hi hk
    obtain ⟨k, rfl⟩ : ∃ m, k = m + 1 := ⟨k - 1, by omega⟩
    simp only [rampartref18_Check.l0]
    by_cases h0 : i < l.length
    · have hw : wrap64 ((i : Int) + 1) = ((i + 1 : Nat) : Int) := (w64 (by omega) (by omega)).trans (by omega)
      rw [if_pos (by omega), if_pos (by omega), drop_cons h0, rd_get h0, left_b' _ k (by omega), hw]
      have e := ih (i + 1) k (by omega) (by omega) (by omega)
      have ep : prevV l (i + 1) = l[i].f0 := by show (rd_T42 l (i : Int)).f0 = _; rw [rd_get h0]
      rw [ep] at e
      simp only [Option.bind_some, numOk]
      by_cases h1 : leftV l[i] = 0
      · rw [if_pos h1, h1]; rfl
      · have h1p := left_pos h1
        rw [if_neg h1, show (leftV l[i] == 0) = false from beq_eq_false_iff_ne.2 h1]
        by_cases h3 : l[i].f0 ≥ b
        · rw [if_pos h3, show decide (l[i].f0 < b) = false from decide_eq_false (by omega)]
          simp
        · rw [if_neg h3, show decide (l[i].f0 < b) = true from decide_eq_true (by omega), e]
          by_cases h4 : i = 0
          · subst h4
            rw [if_neg (by omega), show decide (prevV l 0 < l[0].f0) = true from decide_eq_true (by show (0 : Int) < _; omega)]
            simp
          · obtain ⟨j, rfl⟩ : ∃ j, i = j + 1 := ⟨i - 1, by omega⟩
            have hw2 : wrap64 (((j + 1 : Nat) : Int) - 1) = (j : Int) := (w64 (by omega) (by omega)).trans (by omega)
            rw [if_pos (by omega), hw2, if_pos (by omega), if_pos (by omega)]
            show (if (rd_T42 l (j : Int)).f0 ≥ l[j + 1].f0 then _ else _) = _
            by_cases h5 : (rd_T42 l (j : Int)).f0 ≥ l[j + 1].f0
            · rw [if_pos h5, show decide (prevV l (j + 1) < l[j + 1].f0) = false from decide_eq_false (by show ¬ (rd_T42 l (j : Int)).f0 < _; omega)]
              simp
            · rw [if_neg h5, show decide (prevV l (j + 1) < l[j + 1].f0) = true from decide_eq_true (by show (rd_T42 l (j : Int)).f0 < _; omega)]
              simp
    · rw [if_neg (by omega), List.drop_eq_nil_of_le (by omega)]; rfl
/-- What Check tells. -/
def chkV (a b : Int) (l : List S42) : Int := if 1 ≤ a ∧ a ≤ 4 ∧ 1 ≤ b ∧ b ≤ 1099511627776 ∧ (l.length : Int) ≤ a ∧ numOk b 0 l = true then 0 else 180
theorem check_a (a b : Int) (l : List S42) (hl : l.length ≤ 10) (k : Nat) (hk : 20 ≤ k) : pend_Check.f k a b l = some (chkV a b l) := by
  unfold pend_Check.f chkV
  by_cases h1 : 1 ≤ a ∧ a ≤ 4
  · rw [if_pos h1]
    by_cases h2 : 1 ≤ b ∧ b ≤ 1099511627776
    · rw [if_pos h2]
      by_cases h3 : (l.length : Int) ≤ a
      · rw [if_pos h3]
        unfold pend_numbered.f
        have e := num_a a b l (by omega) 10 0 k 0 (by omega) (by omega) (by omega)
        rw [show ((0 : Nat) : Int) = 0 from rfl] at e
        rw [e, List.drop_zero]
        simp only [Option.bind_some]
        by_cases h4 : numOk b 0 l = true
        · rw [if_pos h4, if_pos ⟨h1.1, h1.2, h2.1, h2.2, h3, h4⟩]
        · rw [if_neg h4, if_neg (fun h => h4 h.2.2.2.2.2)]
      · rw [if_neg h3, if_neg (fun h => h3 h.2.2.2.2.1)]
    · rw [if_neg h2, if_neg (fun h => h2 ⟨h.2.2.1, h.2.2.2.1⟩)]
  · rw [if_neg h1, if_neg (fun h => h1 ⟨h.1, h.2.1⟩)]
theorem check_b (a b : Int) (l : List S42) (hl : l.length ≤ 10) (k : Nat) (hk : 20 ≤ k) : rampartref18_Check.f k a b l = some (chkV a b l) := by
  unfold rampartref18_Check.f chkV
  by_cases h1 : a < 1
  · rw [if_pos h1, if_neg (fun h => by omega)]
  · rw [if_neg h1]
    by_cases h2 : a > 4
    · rw [if_pos h2, if_neg (fun h => by omega)]
    · rw [if_neg h2]
      by_cases h3 : b < 1
      · rw [if_pos h3, if_neg (fun h => by omega)]
      · rw [if_neg h3]
        by_cases h4 : b > 1099511627776
        · rw [if_pos h4, if_neg (fun h => by omega)]
        · rw [if_neg h4]
          by_cases h5 : (l.length : Int) > a
          · rw [if_pos h5, if_neg (fun h => by omega)]
          · rw [if_neg h5]
            have e := num_b a b l (by omega) 10 0 k (by omega) (by omega) (by omega)
            rw [show ((0 : Nat) : Int) = 0 from rfl] at e
            rw [e, List.drop_zero]
            show some (bif numOk b 0 l then (0 : Int) else 180) = _
            by_cases h6 : numOk b 0 l = true
            · rw [if_pos ⟨by omega, by omega, by omega, by omega, by omega, h6⟩, h6]; rfl
            · rw [if_neg (fun h => h6 h.2.2.2.2.2), Bool.eq_false_iff.2 h6]; rfl
theorem full_a (a b : Int) (l : List S42) (hl : l.length ≤ 10) (k : Nat) (hk : 20 ≤ k) : pend_Full.f k a b l = some (if chkV a b l = 0 then (l.length : Int) == a else false) := by
  unfold pend_Full.f
  rw [check_a a b l hl k hk]
  simp only [Option.bind_some]
  by_cases h : chkV a b l = 0
  · rw [if_pos h, if_pos h]
  · rw [if_neg h, if_neg h]
/-- A fresh operation, and the word. -/
def newV (n : Int) (r : S29) : S42 × Int := if n < 1 then (z42, 1) else if isReq r.f0 r.f1 r.f2 r.f3 r.f4 = true then (⟨n, r, rd (stepsV r.f0) 0, 0, 0, ⟨0, 0⟩, 0⟩, 0) else (z42, 30)
def flat13 (v : S42 × Int) : Int × Int × Int × Int × Int × Int × Int × Int × Int × Int × Int × Int × Int := (v.1.f0, v.1.f1.f0, v.1.f1.f1, v.1.f1.f2, v.1.f1.f3, v.1.f1.f4, v.1.f2, v.1.f3, v.1.f4, v.1.f5.f0, v.1.f5.f1, v.1.f6, v.2)
theorem new_a (n : Int) (r : S29) : step_New.f n r.f0 r.f1 r.f2 r.f3 r.f4 = some (flat13 (newV n r)) := by
  unfold step_New.f newV
  rw [check_eq, steps_a]
  by_cases h0 : n < 1
  · rw [if_pos h0, if_pos h0]; rfl
  · rw [if_neg h0, if_neg h0]
    simp only [Option.bind_some]
    by_cases h1 : isReq r.f0 r.f1 r.f2 r.f3 r.f4 = true
    · have hp : (0 : Int) < ((stepsV r.f0).length : Int) := by have := steps_some h1; omega
      rw [if_pos h1, if_pos h1, if_pos rfl, if_pos hp]; rfl
    · rw [if_neg h1, if_neg h1, if_neg (by decide)]; rfl
/-- What Add tells. -/
def addV (a b : Int) (l : List S42) (r : S29) : Int × Int × List S42 × Int × Int :=
  if chkV a b l = 0 then (if (l.length : Int) = a then (0, 0, [], 0, 181) else if b = 1099511627776 then (0, 0, [], 0, 3) else if (newV b r).2 = 0 then (a, b + 1, l ++ [(newV b r).1], b, 0) else (0, 0, [], 0, (newV b r).2)) else (0, 0, [], 0, 180)
theorem chk_bounds {a b : Int} {l : List S42} (h : chkV a b l = 0) : 1 ≤ a ∧ a ≤ 4 ∧ 1 ≤ b ∧ b ≤ 1099511627776 ∧ (l.length : Int) ≤ a ∧ numOk b 0 l = true := by
  unfold chkV at h
  by_cases h1 : 1 ≤ a ∧ a ≤ 4 ∧ 1 ≤ b ∧ b ≤ 1099511627776 ∧ (l.length : Int) ≤ a ∧ numOk b 0 l = true
  · exact h1
  · rw [if_neg h1] at h; exact absurd h (by decide)
theorem new_num {n : Int} {r : S29} (h : (newV n r).2 = 0) : (newV n r).1.f0 = n := by
  unfold newV at h ⊢
  by_cases h0 : n < 1
  · rw [if_pos h0] at h; exact absurd h (by decide)
  · rw [if_neg h0] at h ⊢
    by_cases h1 : isReq r.f0 r.f1 r.f2 r.f3 r.f4 = true
    · rw [if_pos h1]
    · rw [if_neg h1] at h; exact absurd h (by decide)
theorem add_a (a b : Int) (l : List S42) (r : S29) (hl : l.length ≤ 10) (k : Nat) (hk : 20 ≤ k) : pend_Add.f k a b l r.f0 r.f1 r.f2 r.f3 r.f4 = some (addV a b l r) := by
  unfold pend_Add.f addV
  rw [check_a a b l hl k hk]
  simp only [Option.bind_some]
  by_cases h : chkV a b l = 0
  · obtain ⟨q1, q2, q3, q4, q5, q6⟩ := chk_bounds h
    rw [if_pos h, if_pos h, new_a]
    by_cases h1 : (l.length : Int) = a
    · rw [if_pos h1, if_pos h1]
    · rw [if_neg h1, if_neg h1]
      by_cases h2 : b = 1099511627776
      · rw [if_pos h2, if_pos h2]
      · rw [if_neg h2, if_neg h2]
        have ho : pend_own.f a b l = some (a, b, l) := by unfold pend_own.f; rw [if_pos (by omega)]
        have hw : wrap64 (b + 1) = b + 1 := w64 (by omega) (by omega)
        rw [ho]
        simp only [Option.bind_some, flat13]
        by_cases h3 : (newV b r).2 = 0
        · rw [if_pos h3, if_pos h3, if_pos (by omega), hw, new_num h3]
          have e := new_num h3
          generalize newV b r = v at h3 e
          obtain ⟨⟨v0, ⟨v1, v2, v3, v4, v5⟩, v6, v7, v8, ⟨v9, v10⟩, v11⟩, v12⟩ := v
          obtain rfl : v0 = b := e
          rfl
        · rw [if_neg h3, if_neg h3]
  · rw [if_neg h, if_neg h]
end Go.Proofs.Ytkkgnmfahhkajaa.Q
