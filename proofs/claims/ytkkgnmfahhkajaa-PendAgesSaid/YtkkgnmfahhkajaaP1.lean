/- Layer 18, plain: requests, micro-steps, how many are left. -/
import Derived.Test.YtkkgnmfahhkajaaQx4
import Derived.Test.YtkkgnmfahhkajaaQx8
import Derived.Test.YtkkgnmfahhkajaaQx9
import Derived.Test.YtkkgnmfahhkajaaF2
import Derived.Test.YtkkgnmfahhkajaaF5
namespace Go.Proofs.Ytkkgnmfahhkajaa.Q
open Go.RowKit Go.Proofs.YtkkgnmfahhkajaaW.PrintWords Go.Proofs.YtkkgnmfahhkajaaW.PrintMore
set_option linter.unusedVariables false
set_option linter.unusedSimpArgs false
/-- A request that may be. -/
def isReq (kd a rt h p : Int) : Bool :=
  if kd = 1 then decide (1 ≤ rt) && decide (rt ≤ 7) && (h == 0) && (p == 0)
  else if kd = 2 ∨ kd = 4 ∨ kd = 6 ∨ kd = 7 then (a == 0) && (rt == 0) && (p == 0)
  else if kd = 3 then (a == 0) && (rt == 0)
  else if kd = 5 then decide (1 ≤ rt) && decide (rt ≤ 7) && (p == 0)
  else if kd = 8 then (rt == 0) && (h == 0)
  else if kd = 9 then (a == 0) && (rt == 0) && (h == 0) && (p == 0)
  else false
theorem kinds_of (kd : Int) : kd = 1 ∨ kd = 2 ∨ kd = 3 ∨ kd = 4 ∨ kd = 5 ∨ kd = 6 ∨ kd = 7 ∨ kd = 8 ∨ kd = 9 ∨ (kd ≠ 1 ∧ kd ≠ 2 ∧ kd ≠ 3 ∧ kd ≠ 4 ∧ kd ≠ 5 ∧ kd ≠ 6 ∧ kd ≠ 7 ∧ kd ≠ 8 ∧ kd ≠ 9) := by omega
theorem is_eq (kd a rt h p : Int) : rampartref03_Is.f kd a rt h p = some (isReq kd a rt h p) := by
  unfold rampartref03_Is.f isReq
  by_cases h1 : rt ≥ 1
  · rw [if_pos h1]
    have h1' : decide (1 ≤ rt) = true := decide_eq_true h1
    rcases kinds_of kd with rfl | rfl | rfl | rfl | rfl | rfl | rfl | rfl | rfl | ⟨a1, a2, a3, a4, a5, a6, a7, a8, a9⟩
    all_goals simp [*]
    all_goals (repeat' split)
    all_goals simp_all
    all_goals omega
  · rw [if_neg h1]
    have h1' : decide (1 ≤ rt) = false := decide_eq_false h1
    rcases kinds_of kd with rfl | rfl | rfl | rfl | rfl | rfl | rfl | rfl | rfl | ⟨a1, a2, a3, a4, a5, a6, a7, a8, a9⟩
    all_goals simp [*]
    all_goals (repeat' split)
    all_goals simp_all
    all_goals omega
theorem check_eq (kd a rt h p : Int) : wire_Check.f kd a rt h p = some (if isReq kd a rt h p = true then 0 else 30) := by
  unfold wire_Check.f wire_named.f namedR isReq
  rcases kinds_of kd with rfl | rfl | rfl | rfl | rfl | rfl | rfl | rfl | rfl | ⟨a1, a2, a3, a4, a5, a6, a7, a8, a9⟩
  all_goals simp [*]
  all_goals (repeat' split)
  all_goals simp_all
  all_goals omega
/-- A kind's micro-steps. -/
def stepsV (k : Int) : List Int := if k = 3 then [2, 3, 4] else if k = 4 then [5, 6] else if 1 ≤ k ∧ k ≤ 9 then [1] else []
theorem steps_a (k : Int) : step_Steps.f k = some (stepsV k) := by
  unfold step_Steps.f stepsV
  rcases kinds_of k with rfl | rfl | rfl | rfl | rfl | rfl | rfl | rfl | rfl | ⟨a1, a2, a3, a4, a5, a6, a7, a8, a9⟩
  all_goals simp [*]
  omega
theorem steps_b (k : Int) : rampartref17_Steps.f k = some (stepsV k) := by
  unfold rampartref17_Steps.f stepsV
  rcases kinds_of k with rfl | rfl | rfl | rfl | rfl | rfl | rfl | rfl | rfl | ⟨a1, a2, a3, a4, a5, a6, a7, a8, a9⟩
  all_goals simp [*]
  by_cases h : 1 ≤ k
  · rw [if_pos h, if_neg (by omega), if_neg (by omega)]
  · rw [if_neg h, if_neg (by omega)]
theorem stepsV_cases (k : Int) : stepsV k = [2, 3, 4] ∨ stepsV k = [5, 6] ∨ stepsV k = [1] ∨ stepsV k = [] := by
  unfold stepsV
  by_cases h1 : k = 3
  · exact .inl (if_pos h1)
  · rw [if_neg h1]
    by_cases h2 : k = 4
    · exact .inr (.inl (if_pos h2))
    · rw [if_neg h2]
      by_cases h3 : 1 ≤ k ∧ k ≤ 9
      · exact .inr (.inr (.inl (if_pos h3)))
      · exact .inr (.inr (.inr (if_neg h3)))
theorem steps_some {kd a rt h p : Int} (hr : isReq kd a rt h p = true) : 0 < (stepsV kd).length := by
  unfold isReq at hr
  unfold stepsV
  rcases kinds_of kd with rfl | rfl | rfl | rfl | rfl | rfl | rfl | rfl | rfl | ⟨a1, a2, a3, a4, a5, a6, a7, a8, a9⟩
  all_goals first | (simp; done) | (simp [*] at hr)
/-- Where a step stands. -/
def atV (l : List Int) (x : Int) : Int := match l.findIdx? (fun y => decide (x = y)) with
  | some i => (i : Int)
  | none => -1
theorem at_a (k x : Int) : api_MStep.f 5 (stepsV k) x = some (atV (stepsV k) x) := by
  unfold api_MStep.f atV
  rcases stepsV_cases k with e | e | e | e <;> rw [e] <;> simp [api_MStep.l0, rd, wrap64, List.findIdx?_cons]
  all_goals (repeat' split)
  all_goals simp_all
  all_goals omega
theorem at_b (k x : Int) (p0 p1 p2 p3 p4 p5 p6 p7 p8 p9 p10 : Int) : rampartref17_place.l0 5 (stepsV k) 0 p0 p1 p2 p3 p4 p5 x p6 p7 p8 p9 p10 = some (atV (stepsV k) x) := by
  unfold atV
  rcases stepsV_cases k with e | e | e | e <;> rw [e] <;> simp [rampartref17_place.l0, rd, wrap64, List.findIdx?_cons, eq_comm]
  all_goals (repeat' split)
  all_goals simp_all
  all_goals omega
/-- How many micro-steps are left at most. -/
def leftV (o : S42) : Int := if o.f0 < 1 then 0 else if isReq o.f1.f0 o.f1.f1 o.f1.f2 o.f1.f3 o.f1.f4 = true then (if atV (stepsV o.f1.f0) o.f2 < 0 then 0 else wrap64 (((stepsV o.f1.f0).length : Int) - atV (stepsV o.f1.f0) o.f2)) else 0
theorem left_a (o : S42) : step_Left.f 5 o.f0 o.f1.f0 o.f1.f1 o.f1.f2 o.f1.f3 o.f1.f4 o.f2 o.f3 o.f4 o.f5.f0 o.f5.f1 o.f6 = some (leftV o) := by
  unfold step_Left.f leftV
  rw [check_eq, steps_a]
  by_cases h0 : o.f0 < 1
  · rw [if_pos h0, if_pos h0]
  · rw [if_neg h0, if_neg h0]
    by_cases h1 : isReq o.f1.f0 o.f1.f1 o.f1.f2 o.f1.f3 o.f1.f4 = true
    · rw [if_pos h1, if_pos h1]
      simp only [Option.bind_some, at_a, if_true]
      by_cases h2 : atV (stepsV o.f1.f0) o.f2 < 0
      · rw [if_pos h2, if_pos h2]
      · rw [if_neg h2, if_neg h2]
    · rw [if_neg h1, if_neg h1]
      simp only [Option.bind_some]
      rw [if_neg (by decide)]
theorem left_b (o : S42) : rampartref17_Left.f 5 o.f0 o.f1.f0 o.f1.f1 o.f1.f2 o.f1.f3 o.f1.f4 o.f2 o.f3 o.f4 o.f5.f0 o.f5.f1 o.f6 = some (leftV o) := by
  unfold rampartref17_Left.f rampartref17_place.f leftV
  rw [is_eq, steps_b]
  by_cases h0 : o.f0 < 1
  · rw [if_pos h0, if_pos h0]
    simp only [Option.bind_some]
    rw [if_pos (by decide)]
  · rw [if_neg h0, if_neg h0]
    by_cases h1 : isReq o.f1.f0 o.f1.f1 o.f1.f2 o.f1.f3 o.f1.f4 = true
    · simp only [Option.bind_some, at_b]
      rw [if_pos h1, if_pos h1]
      simp only [Option.bind_some]
      by_cases h2 : atV (stepsV o.f1.f0) o.f2 < 0
      · rw [if_pos h2, if_pos h2]
      · rw [if_neg h2, if_neg h2]
    · simp only [Option.bind_some]
      rw [if_neg h1, if_neg h1]
      simp only [Option.bind_some]
      rw [if_pos (by decide)]
theorem up {α : Type} {f : Nat → Option α} (hm : ∀ k, LeO (f k) (f (k + 1))) {k : Nat} {r : α} (h : f k = some r) : ∀ d, f (k + d) = some r := by
  intro d
  induction d with
  | zero => exact h
  | succ d ih => exact hm (k + d) r ih
theorem left_a' (o : S42) (k : Nat) (hk : 5 ≤ k) : step_Left.f k o.f0 o.f1.f0 o.f1.f1 o.f1.f2 o.f1.f3 o.f1.f4 o.f2 o.f3 o.f4 o.f5.f0 o.f5.f1 o.f6 = some (leftV o) := by
  obtain ⟨d, rfl⟩ := Nat.exists_eq_add_of_le hk
  exact up (f := fun k => step_Left.f k o.f0 o.f1.f0 o.f1.f1 o.f1.f2 o.f1.f3 o.f1.f4 o.f2 o.f3 o.f4 o.f5.f0 o.f5.f1 o.f6) (fun k => step_Left.mono _ _ _ _ _ _ _ _ _ _ _ _ k) (left_a o) d
theorem left_b' (o : S42) (k : Nat) (hk : 5 ≤ k) : rampartref17_Left.f k o.f0 o.f1.f0 o.f1.f1 o.f1.f2 o.f1.f3 o.f1.f4 o.f2 o.f3 o.f4 o.f5.f0 o.f5.f1 o.f6 = some (leftV o) := by
  obtain ⟨d, rfl⟩ := Nat.exists_eq_add_of_le hk
  exact up (f := fun k => rampartref17_Left.f k o.f0 o.f1.f0 o.f1.f1 o.f1.f2 o.f1.f3 o.f1.f4 o.f2 o.f3 o.f4 o.f5.f0 o.f5.f1 o.f6) (fun k => rampartref17_Left.mono _ _ _ _ _ _ _ _ _ _ _ _ k) (left_b o) d
theorem left_pos {o : S42} (h : leftV o ≠ 0) : 1 ≤ o.f0 := by
  unfold leftV at h
  by_cases h0 : o.f0 < 1
  · rw [if_pos h0] at h; exact absurd rfl h
  · omega
end Go.Proofs.Ytkkgnmfahhkajaa.Q
