/- Layer 3: what a request of each kind names, and the check, for every request. -/
import Derived.Test.YtkkgnmfahhkajaaQx0
import Derived.Test.YtkkgnmfahhkajaaV
import Derived.ChangeAlike
import Derived.RegionTactic
namespace Go.Proofs.Ytkkgnmfahhkajaa.Q
open Go.RowKit Go.Proofs.YtkkgnmfahhkajaaW.PrintWords Go.Proofs.YtkkgnmfahhkajaaW.PrintMore
set_option linter.unusedVariables false
set_option linter.unusedSimpArgs false

theorem kinds_of' (kd : Int) : kd = 1 ∨ kd = 2 ∨ kd = 3 ∨ kd = 4 ∨ kd = 5 ∨ kd = 6 ∨ kd = 7 ∨ kd = 8 ∨ kd = 9 ∨ (kd ≠ 1 ∧ kd ≠ 2 ∧ kd ≠ 3 ∧ kd ≠ 4 ∧ kd ≠ 5 ∧ kd ≠ 6 ∧ kd ≠ 7 ∧ kd ≠ 8 ∧ kd ≠ 9) := by omega
def namedR (kd a rt h p : Int) : Int × Int × Int × Int × Int × Bool :=
  if kd = 5 then (kd, a, rt, h, 0, decide (1 ≤ rt) && decide (rt ≤ 7))
  else if kd = 1 then (kd, a, rt, 0, 0, decide (1 ≤ rt) && decide (rt ≤ 7))
  else if kd = 3 then (kd, 0, 0, h, p, true)
  else if kd = 2 ∨ kd = 4 ∨ kd = 6 ∨ kd = 7 then (kd, 0, 0, h, 0, true)
  else if kd = 8 then (kd, a, 0, 0, p, true)
  else if kd = 9 then (kd, 0, 0, 0, 0, true)
  else (kd, 0, 0, 0, 0, false)

set_option maxHeartbeats 1000000 in
set_option maxRecDepth 100000 in
theorem named47_5_in (a rt h p : Int) (h1 : 1 ≤ rt) (h2 : rt ≤ 7) (w : World) :
    Calls Try.prog 47 #[.agg #[.int .u8 5, .int .u8 a, .int .u8 rt, .int .u32 h, .int .u64 p]] w fun e w' => e = .returned (.tuple #[.agg #[.int .u8 5, .int .u8 a, .int .u8 rt, .int .u32 h, .int .u64 0], .bool true]) ∧ Below w.heap.size w w' := by
  go_enter Try.func47, Try.ntmps47
  go_wp2
  go_region
  all_goals go_wp2
  all_goals exact bodyPost_ret (v := .tuple #[.agg #[.int .u8 5, .int .u8 a, .int .u8 rt, .int .u32 h, .int .u64 0], .bool true]) (by simp [results, Try.results47, go_sem]) rfl ⟨rfl, (by repeat (first | (with_reducible exact Below.refl _ _) | (with_reducible refine vbelow_alloc ?_ _) | (with_reducible refine vbelow_drew ?_) | (with_reducible refine vbelow_drewN ?_ _) | (with_reducible refine vbelow_set ?_ (by first | exact Nat.le_refl _ | (dsimp only; omega) | omega))))⟩

set_option maxHeartbeats 1000000 in
set_option maxRecDepth 100000 in
theorem named47_1_in (a rt h p : Int) (h1 : 1 ≤ rt) (h2 : rt ≤ 7) (w : World) :
    Calls Try.prog 47 #[.agg #[.int .u8 1, .int .u8 a, .int .u8 rt, .int .u32 h, .int .u64 p]] w fun e w' => e = .returned (.tuple #[.agg #[.int .u8 1, .int .u8 a, .int .u8 rt, .int .u32 0, .int .u64 0], .bool true]) ∧ Below w.heap.size w w' := by
  go_enter Try.func47, Try.ntmps47
  go_wp2
  go_region
  all_goals go_wp2
  all_goals exact bodyPost_ret (v := .tuple #[.agg #[.int .u8 1, .int .u8 a, .int .u8 rt, .int .u32 0, .int .u64 0], .bool true]) (by simp [results, Try.results47, go_sem]) rfl ⟨rfl, (by repeat (first | (with_reducible exact Below.refl _ _) | (with_reducible refine vbelow_alloc ?_ _) | (with_reducible refine vbelow_drew ?_) | (with_reducible refine vbelow_drewN ?_ _) | (with_reducible refine vbelow_set ?_ (by first | exact Nat.le_refl _ | (dsimp only; omega) | omega))))⟩

set_option maxHeartbeats 1000000 in
set_option maxRecDepth 100000 in
theorem named47_5_low (a rt h p : Int) (h1 : rt < 1) (w : World) :
    Calls Try.prog 47 #[.agg #[.int .u8 5, .int .u8 a, .int .u8 rt, .int .u32 h, .int .u64 p]] w fun e w' => e = .returned (.tuple #[.agg #[.int .u8 5, .int .u8 a, .int .u8 rt, .int .u32 h, .int .u64 0], .bool false]) ∧ Below w.heap.size w w' := by
  go_enter Try.func47, Try.ntmps47
  go_wp2
  go_region
  all_goals go_wp2
  all_goals exact bodyPost_ret (v := .tuple #[.agg #[.int .u8 5, .int .u8 a, .int .u8 rt, .int .u32 h, .int .u64 0], .bool false]) (by simp [results, Try.results47, go_sem]) rfl ⟨rfl, (by repeat (first | (with_reducible exact Below.refl _ _) | (with_reducible refine vbelow_alloc ?_ _) | (with_reducible refine vbelow_drew ?_) | (with_reducible refine vbelow_drewN ?_ _) | (with_reducible refine vbelow_set ?_ (by first | exact Nat.le_refl _ | (dsimp only; omega) | omega))))⟩

set_option maxHeartbeats 1000000 in
set_option maxRecDepth 100000 in
theorem named47_1_low (a rt h p : Int) (h1 : rt < 1) (w : World) :
    Calls Try.prog 47 #[.agg #[.int .u8 1, .int .u8 a, .int .u8 rt, .int .u32 h, .int .u64 p]] w fun e w' => e = .returned (.tuple #[.agg #[.int .u8 1, .int .u8 a, .int .u8 rt, .int .u32 0, .int .u64 0], .bool false]) ∧ Below w.heap.size w w' := by
  go_enter Try.func47, Try.ntmps47
  go_wp2
  go_region
  all_goals go_wp2
  all_goals exact bodyPost_ret (v := .tuple #[.agg #[.int .u8 1, .int .u8 a, .int .u8 rt, .int .u32 0, .int .u64 0], .bool false]) (by simp [results, Try.results47, go_sem]) rfl ⟨rfl, (by repeat (first | (with_reducible exact Below.refl _ _) | (with_reducible refine vbelow_alloc ?_ _) | (with_reducible refine vbelow_drew ?_) | (with_reducible refine vbelow_drewN ?_ _) | (with_reducible refine vbelow_set ?_ (by first | exact Nat.le_refl _ | (dsimp only; omega) | omega))))⟩

set_option maxHeartbeats 1000000 in
set_option maxRecDepth 100000 in
theorem named47_5_high (a rt h p : Int) (h1 : 1 ≤ rt) (h2 : 7 < rt) (w : World) :
    Calls Try.prog 47 #[.agg #[.int .u8 5, .int .u8 a, .int .u8 rt, .int .u32 h, .int .u64 p]] w fun e w' => e = .returned (.tuple #[.agg #[.int .u8 5, .int .u8 a, .int .u8 rt, .int .u32 h, .int .u64 0], .bool false]) ∧ Below w.heap.size w w' := by
  have hd : decide (rt ≤ 7) = false := decide_eq_false (by omega)
  go_enter Try.func47, Try.ntmps47
  go_wp2
  go_region
  all_goals go_wp2
  all_goals exact bodyPost_ret (v := .tuple #[.agg #[.int .u8 5, .int .u8 a, .int .u8 rt, .int .u32 h, .int .u64 0], .bool false]) (by simp [results, Try.results47, go_sem]) rfl ⟨rfl, (by repeat (first | (with_reducible exact Below.refl _ _) | (with_reducible refine vbelow_alloc ?_ _) | (with_reducible refine vbelow_drew ?_) | (with_reducible refine vbelow_drewN ?_ _) | (with_reducible refine vbelow_set ?_ (by first | exact Nat.le_refl _ | (dsimp only; omega) | omega))))⟩

set_option maxHeartbeats 1000000 in
set_option maxRecDepth 100000 in
theorem named47_1_high (a rt h p : Int) (h1 : 1 ≤ rt) (h2 : 7 < rt) (w : World) :
    Calls Try.prog 47 #[.agg #[.int .u8 1, .int .u8 a, .int .u8 rt, .int .u32 h, .int .u64 p]] w fun e w' => e = .returned (.tuple #[.agg #[.int .u8 1, .int .u8 a, .int .u8 rt, .int .u32 0, .int .u64 0], .bool false]) ∧ Below w.heap.size w w' := by
  have hd : decide (rt ≤ 7) = false := decide_eq_false (by omega)
  go_enter Try.func47, Try.ntmps47
  go_wp2
  go_region
  all_goals go_wp2
  all_goals exact bodyPost_ret (v := .tuple #[.agg #[.int .u8 1, .int .u8 a, .int .u8 rt, .int .u32 0, .int .u64 0], .bool false]) (by simp [results, Try.results47, go_sem]) rfl ⟨rfl, (by repeat (first | (with_reducible exact Below.refl _ _) | (with_reducible refine vbelow_alloc ?_ _) | (with_reducible refine vbelow_drew ?_) | (with_reducible refine vbelow_drewN ?_ _) | (with_reducible refine vbelow_set ?_ (by first | exact Nat.le_refl _ | (dsimp only; omega) | omega))))⟩

set_option maxHeartbeats 1000000 in
set_option maxRecDepth 100000 in
theorem named47_3 (a rt h p : Int) (w : World) :
    Calls Try.prog 47 #[.agg #[.int .u8 3, .int .u8 a, .int .u8 rt, .int .u32 h, .int .u64 p]] w fun e w' => e = .returned (.tuple #[.agg #[.int .u8 3, .int .u8 0, .int .u8 0, .int .u32 h, .int .u64 p], .bool true]) ∧ Below w.heap.size w w' := by
  go_enter Try.func47, Try.ntmps47
  go_wp2
  all_goals exact bodyPost_ret (v := .tuple #[.agg #[.int .u8 3, .int .u8 0, .int .u8 0, .int .u32 h, .int .u64 p], .bool true]) (by simp [results, Try.results47, go_sem]) rfl ⟨rfl, (by repeat (first | (with_reducible exact Below.refl _ _) | (with_reducible refine vbelow_alloc ?_ _) | (with_reducible refine vbelow_drew ?_) | (with_reducible refine vbelow_drewN ?_ _) | (with_reducible refine vbelow_set ?_ (by first | exact Nat.le_refl _ | (dsimp only; omega) | omega))))⟩

set_option maxHeartbeats 1000000 in
set_option maxRecDepth 100000 in
theorem named47_2 (a rt h p : Int) (w : World) :
    Calls Try.prog 47 #[.agg #[.int .u8 2, .int .u8 a, .int .u8 rt, .int .u32 h, .int .u64 p]] w fun e w' => e = .returned (.tuple #[.agg #[.int .u8 2, .int .u8 0, .int .u8 0, .int .u32 h, .int .u64 0], .bool true]) ∧ Below w.heap.size w w' := by
  go_enter Try.func47, Try.ntmps47
  go_wp2
  all_goals exact bodyPost_ret (v := .tuple #[.agg #[.int .u8 2, .int .u8 0, .int .u8 0, .int .u32 h, .int .u64 0], .bool true]) (by simp [results, Try.results47, go_sem]) rfl ⟨rfl, (by repeat (first | (with_reducible exact Below.refl _ _) | (with_reducible refine vbelow_alloc ?_ _) | (with_reducible refine vbelow_drew ?_) | (with_reducible refine vbelow_drewN ?_ _) | (with_reducible refine vbelow_set ?_ (by first | exact Nat.le_refl _ | (dsimp only; omega) | omega))))⟩

set_option maxHeartbeats 1000000 in
set_option maxRecDepth 100000 in
theorem named47_4 (a rt h p : Int) (w : World) :
    Calls Try.prog 47 #[.agg #[.int .u8 4, .int .u8 a, .int .u8 rt, .int .u32 h, .int .u64 p]] w fun e w' => e = .returned (.tuple #[.agg #[.int .u8 4, .int .u8 0, .int .u8 0, .int .u32 h, .int .u64 0], .bool true]) ∧ Below w.heap.size w w' := by
  go_enter Try.func47, Try.ntmps47
  go_wp2
  all_goals exact bodyPost_ret (v := .tuple #[.agg #[.int .u8 4, .int .u8 0, .int .u8 0, .int .u32 h, .int .u64 0], .bool true]) (by simp [results, Try.results47, go_sem]) rfl ⟨rfl, (by repeat (first | (with_reducible exact Below.refl _ _) | (with_reducible refine vbelow_alloc ?_ _) | (with_reducible refine vbelow_drew ?_) | (with_reducible refine vbelow_drewN ?_ _) | (with_reducible refine vbelow_set ?_ (by first | exact Nat.le_refl _ | (dsimp only; omega) | omega))))⟩

set_option maxHeartbeats 1000000 in
set_option maxRecDepth 100000 in
theorem named47_6 (a rt h p : Int) (w : World) :
    Calls Try.prog 47 #[.agg #[.int .u8 6, .int .u8 a, .int .u8 rt, .int .u32 h, .int .u64 p]] w fun e w' => e = .returned (.tuple #[.agg #[.int .u8 6, .int .u8 0, .int .u8 0, .int .u32 h, .int .u64 0], .bool true]) ∧ Below w.heap.size w w' := by
  go_enter Try.func47, Try.ntmps47
  go_wp2
  all_goals exact bodyPost_ret (v := .tuple #[.agg #[.int .u8 6, .int .u8 0, .int .u8 0, .int .u32 h, .int .u64 0], .bool true]) (by simp [results, Try.results47, go_sem]) rfl ⟨rfl, (by repeat (first | (with_reducible exact Below.refl _ _) | (with_reducible refine vbelow_alloc ?_ _) | (with_reducible refine vbelow_drew ?_) | (with_reducible refine vbelow_drewN ?_ _) | (with_reducible refine vbelow_set ?_ (by first | exact Nat.le_refl _ | (dsimp only; omega) | omega))))⟩

set_option maxHeartbeats 1000000 in
set_option maxRecDepth 100000 in
theorem named47_7 (a rt h p : Int) (w : World) :
    Calls Try.prog 47 #[.agg #[.int .u8 7, .int .u8 a, .int .u8 rt, .int .u32 h, .int .u64 p]] w fun e w' => e = .returned (.tuple #[.agg #[.int .u8 7, .int .u8 0, .int .u8 0, .int .u32 h, .int .u64 0], .bool true]) ∧ Below w.heap.size w w' := by
  go_enter Try.func47, Try.ntmps47
  go_wp2
  all_goals exact bodyPost_ret (v := .tuple #[.agg #[.int .u8 7, .int .u8 0, .int .u8 0, .int .u32 h, .int .u64 0], .bool true]) (by simp [results, Try.results47, go_sem]) rfl ⟨rfl, (by repeat (first | (with_reducible exact Below.refl _ _) | (with_reducible refine vbelow_alloc ?_ _) | (with_reducible refine vbelow_drew ?_) | (with_reducible refine vbelow_drewN ?_ _) | (with_reducible refine vbelow_set ?_ (by first | exact Nat.le_refl _ | (dsimp only; omega) | omega))))⟩

set_option maxHeartbeats 1000000 in
set_option maxRecDepth 100000 in
theorem named47_8 (a rt h p : Int) (w : World) :
    Calls Try.prog 47 #[.agg #[.int .u8 8, .int .u8 a, .int .u8 rt, .int .u32 h, .int .u64 p]] w fun e w' => e = .returned (.tuple #[.agg #[.int .u8 8, .int .u8 a, .int .u8 0, .int .u32 0, .int .u64 p], .bool true]) ∧ Below w.heap.size w w' := by
  go_enter Try.func47, Try.ntmps47
  go_wp2
  go_region
  all_goals go_wp2
  all_goals exact bodyPost_ret (v := .tuple #[.agg #[.int .u8 8, .int .u8 a, .int .u8 0, .int .u32 0, .int .u64 p], .bool true]) (by simp [results, Try.results47, go_sem]) rfl ⟨rfl, (by repeat (first | (with_reducible exact Below.refl _ _) | (with_reducible refine vbelow_alloc ?_ _) | (with_reducible refine vbelow_drew ?_) | (with_reducible refine vbelow_drewN ?_ _) | (with_reducible refine vbelow_set ?_ (by first | exact Nat.le_refl _ | (dsimp only; omega) | omega))))⟩

set_option maxHeartbeats 1000000 in
set_option maxRecDepth 100000 in
theorem named47_9 (a rt h p : Int) (w : World) :
    Calls Try.prog 47 #[.agg #[.int .u8 9, .int .u8 a, .int .u8 rt, .int .u32 h, .int .u64 p]] w fun e w' => e = .returned (.tuple #[.agg #[.int .u8 9, .int .u8 0, .int .u8 0, .int .u32 0, .int .u64 0], .bool true]) ∧ Below w.heap.size w w' := by
  go_enter Try.func47, Try.ntmps47
  go_wp2
  all_goals exact bodyPost_ret (v := .tuple #[.agg #[.int .u8 9, .int .u8 0, .int .u8 0, .int .u32 0, .int .u64 0], .bool true]) (by simp [results, Try.results47, go_sem]) rfl ⟨rfl, (by repeat (first | (with_reducible exact Below.refl _ _) | (with_reducible refine vbelow_alloc ?_ _) | (with_reducible refine vbelow_drew ?_) | (with_reducible refine vbelow_drewN ?_ _) | (with_reducible refine vbelow_set ?_ (by first | exact Nat.le_refl _ | (dsimp only; omega) | omega))))⟩

set_option maxHeartbeats 1000000 in
set_option maxRecDepth 100000 in
theorem named47_none (kd a rt h p : Int) (n1 : (kd == 1) = false) (n2 : (kd == 2) = false) (n3 : (kd == 3) = false) (n4 : (kd == 4) = false) (n5 : (kd == 5) = false) (n6 : (kd == 6) = false) (n7 : (kd == 7) = false) (n8 : (kd == 8) = false) (n9 : (kd == 9) = false) (w : World) :
    Calls Try.prog 47 #[.agg #[.int .u8 kd, .int .u8 a, .int .u8 rt, .int .u32 h, .int .u64 p]] w fun e w' => e = .returned (.tuple #[.agg #[.int .u8 kd, .int .u8 0, .int .u8 0, .int .u32 0, .int .u64 0], .bool false]) ∧ Below w.heap.size w w' := by
  go_enter Try.func47, Try.ntmps47
  go_wp2
  all_goals exact bodyPost_ret (v := .tuple #[.agg #[.int .u8 kd, .int .u8 0, .int .u8 0, .int .u32 0, .int .u64 0], .bool false]) (by simp [results, Try.results47, go_sem]) rfl ⟨rfl, (by repeat (first | (with_reducible exact Below.refl _ _) | (with_reducible refine vbelow_alloc ?_ _) | (with_reducible refine vbelow_drew ?_) | (with_reducible refine vbelow_drewN ?_ _) | (with_reducible refine vbelow_set ?_ (by first | exact Nat.le_refl _ | (dsimp only; omega) | omega))))⟩

/-- A request with just what its kind names, in the printed form. -/
def wire_named.f (a0_0 a0_1 a0_2 a0_3 a0_4 : Int) : Option (Int × Int × Int × Int × Int × Bool) := some (namedR a0_0 a0_1 a0_2 a0_3 a0_4)
theorem wire_named.calls (a0_0 a0_1 a0_2 a0_3 a0_4 r1 r2 r3 r4 r5 : Int) (r6 : Bool) (w : World) (h : wire_named.f a0_0 a0_1 a0_2 a0_3 a0_4 = some (r1, r2, r3, r4, r5, r6)) :
    Calls Try.prog 47 #[.agg #[.int .u8 a0_0, .int .u8 a0_1, .int .u8 a0_2, .int .u32 a0_3, .int .u64 a0_4]] w fun e w' => e = .returned (.tuple #[.agg #[.int .u8 r1, .int .u8 r2, .int .u8 r3, .int .u32 r4, .int .u64 r5], .bool r6]) ∧ Below w.heap.size w w' := by
  simp only [wire_named.f, namedR, Option.some.injEq] at h
  rcases kinds_of' a0_0 with rfl | rfl | rfl | rfl | rfl | rfl | rfl | rfl | rfl | ⟨n1, n2, n3, n4, n5, n6, n7, n8, n9⟩
  · by_cases h1 : 1 ≤ a0_2
    · by_cases h2 : a0_2 ≤ 7
      · simp [h1, h2] at h
        obtain ⟨rfl, rfl, rfl, rfl, rfl, rfl⟩ := h
        exact named47_1_in _ _ _ _ h1 h2 w
      · simp [h1, h2] at h
        obtain ⟨rfl, rfl, rfl, rfl, rfl, rfl⟩ := h
        exact named47_1_high _ _ _ _ h1 (by omega) w
    · simp [h1] at h
      obtain ⟨rfl, rfl, rfl, rfl, rfl, rfl⟩ := h
      exact named47_1_low _ _ _ _ (by omega) w
  · simp at h
    obtain ⟨rfl, rfl, rfl, rfl, rfl, rfl⟩ := h
    exact named47_2 _ _ _ _ w
  · simp at h
    obtain ⟨rfl, rfl, rfl, rfl, rfl, rfl⟩ := h
    exact named47_3 _ _ _ _ w
  · simp at h
    obtain ⟨rfl, rfl, rfl, rfl, rfl, rfl⟩ := h
    exact named47_4 _ _ _ _ w
  · by_cases h1 : 1 ≤ a0_2
    · by_cases h2 : a0_2 ≤ 7
      · simp [h1, h2] at h
        obtain ⟨rfl, rfl, rfl, rfl, rfl, rfl⟩ := h
        exact named47_5_in _ _ _ _ h1 h2 w
      · simp [h1, h2] at h
        obtain ⟨rfl, rfl, rfl, rfl, rfl, rfl⟩ := h
        exact named47_5_high _ _ _ _ h1 (by omega) w
    · simp [h1] at h
      obtain ⟨rfl, rfl, rfl, rfl, rfl, rfl⟩ := h
      exact named47_5_low _ _ _ _ (by omega) w
  · simp at h
    obtain ⟨rfl, rfl, rfl, rfl, rfl, rfl⟩ := h
    exact named47_6 _ _ _ _ w
  · simp at h
    obtain ⟨rfl, rfl, rfl, rfl, rfl, rfl⟩ := h
    exact named47_7 _ _ _ _ w
  · simp at h
    obtain ⟨rfl, rfl, rfl, rfl, rfl, rfl⟩ := h
    exact named47_8 _ _ _ _ w
  · simp at h
    obtain ⟨rfl, rfl, rfl, rfl, rfl, rfl⟩ := h
    exact named47_9 _ _ _ _ w
  · simp [n1, n2, n3, n4, n5, n6, n7, n8, n9] at h
    obtain ⟨rfl, rfl, rfl, rfl, rfl, rfl⟩ := h
    exact named47_none _ _ _ _ _ (by simpa using n1) (by simpa using n2) (by simpa using n3) (by simpa using n4) (by simpa using n5) (by simpa using n6) (by simpa using n7) (by simpa using n8) (by simpa using n9) w

end Go.Proofs.Ytkkgnmfahhkajaa.Q
