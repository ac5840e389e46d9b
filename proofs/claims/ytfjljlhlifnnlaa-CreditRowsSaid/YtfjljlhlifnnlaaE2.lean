/- Layer 13: one word on each function, for all its ways. -/
import Derived.Test.YtfjljlhlifnnlaaE1
namespace Go.Proofs.Ytfjljlhlifnnlaa.Q
open Go.RowKit
set_option linter.unusedVariables false
set_option linter.unusedSimpArgs false

def spendR (a b c : Int) : Int × Int × Int × Int := if accMay a b c = true then (if (b == a) = true then (0, 0, 0, 130) else (a, b + 1, c, 0)) else (0, 0, 0, 131)
def resetR (a b c : Int) : Int × Int × Int × Int := if accMay a b c = true then (if (c == 1099511627776) = true then (0, 0, 0, 3) else (a, 0, c + 1, 0)) else (0, 0, 0, 131)
def backR (a b c p : Int) : Int × Int × Int × Int := if accMay a b c = true then (if (p != c) = true then (a, b, c, 0) else if (b == 0) = true then (0, 0, 0, 130) else (a, b - 1, c, 0)) else (0, 0, 0, 131)
def openR (room : Int) : Int × Int × Int × Int := if accMay room 0 0 = true then (room, 0, 0, 0) else (0, 0, 0, 131)
def leftR (a b c : Int) : Int := if accMay a b c = true then a - b else 0
def checkR (a b c : Int) : Int := if accMay a b c = true then 0 else 131

set_option maxHeartbeats 1000000 in
set_option maxRecDepth 100000 in
theorem spend10 (a b c : Int) (r1 r2 r3 r4 : Int) (h : spendR a b c = (r1, r2, r3, r4)) (w : World) :
    Calls Try.prog 10 #[.agg #[.int .i64 a, .int .i64 b, .int .i64 c]] w fun e w' => e = .returned (.tuple #[.agg #[.int .i64 r1, .int .i64 r2, .int .i64 r3], .int .i64 r4]) ∧ Below w.heap.size w w' := by
  by_cases hm : accMay a b c = true
  · obtain ⟨q1, q2, q3, q4, q5, q6⟩ := accMay_yes hm
    by_cases hk : (b == a) = true
    · simp only [spendR, hm, hk, if_true, Prod.mk.injEq] at h
      obtain ⟨rfl, rfl, rfl, rfl⟩ := h
      exact spend10_no a b c w hm hk
    · have hk := Bool.eq_false_iff.mpr hk
      simp only [spendR, hm, hk, if_true, Bool.false_eq_true, if_false, Prod.mk.injEq] at h
      obtain ⟨rfl, rfl, rfl, rfl⟩ := h
      exact spend10_yes a b c w hm hk (by omega) (by omega)
  · have hm := Bool.eq_false_iff.mpr hm
    simp only [spendR, hm, Bool.false_eq_true, if_false, Prod.mk.injEq] at h
    obtain ⟨rfl, rfl, rfl, rfl⟩ := h
    exact spend10_bad a b c w hm

set_option maxHeartbeats 1000000 in
set_option maxRecDepth 100000 in
theorem spend11 (a b c : Int) (r1 r2 r3 r4 : Int) (h : spendR a b c = (r1, r2, r3, r4)) (w : World) :
    Calls Try.prog 11 #[.agg #[.int .i64 a, .int .i64 b, .int .i64 c]] w fun e w' => e = .returned (.tuple #[.agg #[.int .i64 r1, .int .i64 r2, .int .i64 r3], .int .i64 r4]) ∧ Below w.heap.size w w' := by
  by_cases hm : accMay a b c = true
  · obtain ⟨q1, q2, q3, q4, q5, q6⟩ := accMay_yes hm
    by_cases hk : (b == a) = true
    · simp only [spendR, hm, hk, if_true, Prod.mk.injEq] at h
      obtain ⟨rfl, rfl, rfl, rfl⟩ := h
      exact spend11_no a b c w hm hk
    · have hk := Bool.eq_false_iff.mpr hk
      simp only [spendR, hm, hk, if_true, Bool.false_eq_true, if_false, Prod.mk.injEq] at h
      obtain ⟨rfl, rfl, rfl, rfl⟩ := h
      exact spend11_yes a b c w hm hk (by omega) (by omega)
  · have hm := Bool.eq_false_iff.mpr hm
    simp only [spendR, hm, Bool.false_eq_true, if_false, Prod.mk.injEq] at h
    obtain ⟨rfl, rfl, rfl, rfl⟩ := h
    exact spend11_bad a b c w hm

set_option maxHeartbeats 1000000 in
set_option maxRecDepth 100000 in
theorem reset14 (a b c : Int) (r1 r2 r3 r4 : Int) (h : resetR a b c = (r1, r2, r3, r4)) (w : World) :
    Calls Try.prog 14 #[.agg #[.int .i64 a, .int .i64 b, .int .i64 c]] w fun e w' => e = .returned (.tuple #[.agg #[.int .i64 r1, .int .i64 r2, .int .i64 r3], .int .i64 r4]) ∧ Below w.heap.size w w' := by
  by_cases hm : accMay a b c = true
  · obtain ⟨q1, q2, q3, q4, q5, q6⟩ := accMay_yes hm
    by_cases hk : (c == 1099511627776) = true
    · simp only [resetR, hm, hk, if_true, Prod.mk.injEq] at h
      obtain ⟨rfl, rfl, rfl, rfl⟩ := h
      exact reset14_no a b c w hm hk
    · have hk := Bool.eq_false_iff.mpr hk
      simp only [resetR, hm, hk, if_true, Bool.false_eq_true, if_false, Prod.mk.injEq] at h
      obtain ⟨rfl, rfl, rfl, rfl⟩ := h
      exact reset14_yes a b c w hm hk (by omega) (by omega)
  · have hm := Bool.eq_false_iff.mpr hm
    simp only [resetR, hm, Bool.false_eq_true, if_false, Prod.mk.injEq] at h
    obtain ⟨rfl, rfl, rfl, rfl⟩ := h
    exact reset14_bad a b c w hm

set_option maxHeartbeats 1000000 in
set_option maxRecDepth 100000 in
theorem reset15 (a b c : Int) (r1 r2 r3 r4 : Int) (h : resetR a b c = (r1, r2, r3, r4)) (w : World) :
    Calls Try.prog 15 #[.agg #[.int .i64 a, .int .i64 b, .int .i64 c]] w fun e w' => e = .returned (.tuple #[.agg #[.int .i64 r1, .int .i64 r2, .int .i64 r3], .int .i64 r4]) ∧ Below w.heap.size w w' := by
  by_cases hm : accMay a b c = true
  · obtain ⟨q1, q2, q3, q4, q5, q6⟩ := accMay_yes hm
    by_cases hk : (c == 1099511627776) = true
    · simp only [resetR, hm, hk, if_true, Prod.mk.injEq] at h
      obtain ⟨rfl, rfl, rfl, rfl⟩ := h
      exact reset15_no a b c w hm hk
    · have hk := Bool.eq_false_iff.mpr hk
      simp only [resetR, hm, hk, if_true, Bool.false_eq_true, if_false, Prod.mk.injEq] at h
      obtain ⟨rfl, rfl, rfl, rfl⟩ := h
      exact reset15_yes a b c w hm hk (by omega) (by omega)
  · have hm := Bool.eq_false_iff.mpr hm
    simp only [resetR, hm, Bool.false_eq_true, if_false, Prod.mk.injEq] at h
    obtain ⟨rfl, rfl, rfl, rfl⟩ := h
    exact reset15_bad a b c w hm

set_option maxHeartbeats 1000000 in
set_option maxRecDepth 100000 in
theorem back12 (a b c p : Int) (r1 r2 r3 r4 : Int) (h : backR a b c p = (r1, r2, r3, r4)) (w : World) :
    Calls Try.prog 12 #[.agg #[.int .i64 a, .int .i64 b, .int .i64 c], .int .i64 p] w fun e w' => e = .returned (.tuple #[.agg #[.int .i64 r1, .int .i64 r2, .int .i64 r3], .int .i64 r4]) ∧ Below w.heap.size w w' := by
  by_cases hm : accMay a b c = true
  · obtain ⟨q1, q2, q3, q4, q5, q6⟩ := accMay_yes hm
    by_cases hk : (p != c) = true
    · simp only [backR, hm, hk, if_true, Prod.mk.injEq] at h
      obtain ⟨rfl, rfl, rfl, rfl⟩ := h
      exact back12_0 a b c p w hm hk
    · have hk := Bool.eq_false_iff.mpr hk
      by_cases hj : (b == 0) = true
      · simp only [backR, hm, hk, hj, if_true, Bool.false_eq_true, if_false, Prod.mk.injEq] at h
        obtain ⟨rfl, rfl, rfl, rfl⟩ := h
        exact back12_1 a b c p w hm hk hj
      · have hj := Bool.eq_false_iff.mpr hj
        simp only [backR, hm, hk, hj, if_true, Bool.false_eq_true, if_false, Prod.mk.injEq] at h
        obtain ⟨rfl, rfl, rfl, rfl⟩ := h
        exact back12_2 a b c p w hm hk hj (by omega) (by omega)
  · have hm := Bool.eq_false_iff.mpr hm
    simp only [backR, hm, Bool.false_eq_true, if_false, Prod.mk.injEq] at h
    obtain ⟨rfl, rfl, rfl, rfl⟩ := h
    exact back12_bad a b c p w hm

set_option maxHeartbeats 1000000 in
set_option maxRecDepth 100000 in
theorem back13 (a b c p : Int) (r1 r2 r3 r4 : Int) (h : backR a b c p = (r1, r2, r3, r4)) (w : World) :
    Calls Try.prog 13 #[.agg #[.int .i64 a, .int .i64 b, .int .i64 c], .int .i64 p] w fun e w' => e = .returned (.tuple #[.agg #[.int .i64 r1, .int .i64 r2, .int .i64 r3], .int .i64 r4]) ∧ Below w.heap.size w w' := by
  by_cases hm : accMay a b c = true
  · obtain ⟨q1, q2, q3, q4, q5, q6⟩ := accMay_yes hm
    by_cases hk : (p != c) = true
    · simp only [backR, hm, hk, if_true, Prod.mk.injEq] at h
      obtain ⟨rfl, rfl, rfl, rfl⟩ := h
      exact back13_0 a b c p w hm hk
    · have hk := Bool.eq_false_iff.mpr hk
      by_cases hj : (b == 0) = true
      · simp only [backR, hm, hk, hj, if_true, Bool.false_eq_true, if_false, Prod.mk.injEq] at h
        obtain ⟨rfl, rfl, rfl, rfl⟩ := h
        exact back13_1 a b c p w hm hk hj
      · have hj := Bool.eq_false_iff.mpr hj
        simp only [backR, hm, hk, hj, if_true, Bool.false_eq_true, if_false, Prod.mk.injEq] at h
        obtain ⟨rfl, rfl, rfl, rfl⟩ := h
        exact back13_2 a b c p w hm hk hj (by omega) (by omega)
  · have hm := Bool.eq_false_iff.mpr hm
    simp only [backR, hm, Bool.false_eq_true, if_false, Prod.mk.injEq] at h
    obtain ⟨rfl, rfl, rfl, rfl⟩ := h
    exact back13_bad a b c p w hm

set_option maxHeartbeats 1000000 in
set_option maxRecDepth 100000 in
theorem open8 (room : Int) (r1 r2 r3 r4 : Int) (h : openR room = (r1, r2, r3, r4)) (w : World) :
    Calls Try.prog 8 #[.int .i64 room] w fun e w' => e = .returned (.tuple #[.agg #[.int .i64 r1, .int .i64 r2, .int .i64 r3], .int .i64 r4]) ∧ Below w.heap.size w w' := by
  by_cases hm : accMay room 0 0 = true
  · simp only [openR, hm, if_true, Prod.mk.injEq] at h
    obtain ⟨rfl, rfl, rfl, rfl⟩ := h
    exact open8_yes room w hm
  · have hm := Bool.eq_false_iff.mpr hm
    simp only [openR, hm, Bool.false_eq_true, if_false, Prod.mk.injEq] at h
    obtain ⟨rfl, rfl, rfl, rfl⟩ := h
    exact open8_no room w hm

set_option maxHeartbeats 1000000 in
set_option maxRecDepth 100000 in
theorem open9 (room : Int) (r1 r2 r3 r4 : Int) (h : openR room = (r1, r2, r3, r4)) (w : World) :
    Calls Try.prog 9 #[.int .i64 room] w fun e w' => e = .returned (.tuple #[.agg #[.int .i64 r1, .int .i64 r2, .int .i64 r3], .int .i64 r4]) ∧ Below w.heap.size w w' := by
  by_cases hm : accMay room 0 0 = true
  · simp only [openR, hm, if_true, Prod.mk.injEq] at h
    obtain ⟨rfl, rfl, rfl, rfl⟩ := h
    exact open9_yes room w hm
  · have hm := Bool.eq_false_iff.mpr hm
    simp only [openR, hm, Bool.false_eq_true, if_false, Prod.mk.injEq] at h
    obtain ⟨rfl, rfl, rfl, rfl⟩ := h
    exact open9_no room w hm

set_option maxHeartbeats 1000000 in
set_option maxRecDepth 100000 in
theorem left18 (a b c r : Int) (h : leftR a b c = r) (w : World) :
    Calls Try.prog 18 #[.agg #[.int .i64 a, .int .i64 b, .int .i64 c]] w fun e w' => e = .returned (.int .i64 r) ∧ Below w.heap.size w w' := by
  by_cases hm : accMay a b c = true
  · simp only [leftR, hm, if_true] at h
    subst h
    exact left18_yes a b c w hm
  · have hm := Bool.eq_false_iff.mpr hm
    simp only [leftR, hm, Bool.false_eq_true, if_false] at h
    subst h
    exact left18_no a b c w hm

set_option maxHeartbeats 1000000 in
set_option maxRecDepth 100000 in
theorem left19 (a b c r : Int) (h : leftR a b c = r) (w : World) :
    Calls Try.prog 19 #[.agg #[.int .i64 a, .int .i64 b, .int .i64 c]] w fun e w' => e = .returned (.int .i64 r) ∧ Below w.heap.size w w' := by
  by_cases hm : accMay a b c = true
  · simp only [leftR, hm, if_true] at h
    subst h
    exact left19_yes a b c w hm
  · have hm := Bool.eq_false_iff.mpr hm
    simp only [leftR, hm, Bool.false_eq_true, if_false] at h
    subst h
    exact left19_no a b c w hm

set_option maxHeartbeats 1000000 in
set_option maxRecDepth 100000 in
theorem check16 (a b c r : Int) (h : checkR a b c = r) (w : World) :
    Calls Try.prog 16 #[.agg #[.int .i64 a, .int .i64 b, .int .i64 c]] w fun e w' => e = .returned (.int .i64 r) ∧ Below w.heap.size w w' := by
  by_cases hm : accMay a b c = true
  · simp only [checkR, hm, if_true] at h
    subst h
    exact check16_yes a b c w hm
  · have hm := Bool.eq_false_iff.mpr hm
    simp only [checkR, hm, Bool.false_eq_true, if_false] at h
    subst h
    exact check16_no a b c w hm

set_option maxHeartbeats 1000000 in
set_option maxRecDepth 100000 in
theorem alive20 (w : World) :
    Calls Try.prog 20 #[] w fun e w' => e = .returned (.bool true) ∧ Below w.heap.size w w' := by
  go_enter Try.func20, Try.ntmps20
  go_wp2_with fail
  refine (open8_yes 2 _ (by decide)).mono ?_
  rintro e w1 ⟨rfl, hb1⟩
  obtain ⟨hc1, hf1⟩ := vbcell hb1
  have hz1 : w.heap.size ≤ w1.heap.size := (by have h_ := hb1.size; (try simp only [World.size_alloc, World.size_setCell, World.size_drew, World.heap_drewN] at h_); omega)
  have HB1 : Below w.heap.size w w1 := vbelow_step (by repeat (first | (with_reducible exact Below.refl _ _) | (with_reducible refine vbelow_alloc ?_ _) | (with_reducible refine vbelow_drew ?_) | (with_reducible refine vbelow_drewN ?_ _) | (with_reducible refine vbelow_set ?_ (by first | exact Nat.le_refl _ | (dsimp only; omega) | omega)))) hb1
  clear hc1 hf1 hb1
  go_wp2_with fail
  refine (spend10_yes 2 0 0 _ (by decide) (by decide) (by decide) (by decide)).mono ?_
  rintro e w2 ⟨rfl, hb2⟩
  obtain ⟨hc2, hf2⟩ := vbcell hb2
  have hz2 : w1.heap.size + 1 ≤ w2.heap.size := (by have h_ := hb2.size; (try simp only [World.size_alloc, World.size_setCell, World.size_drew, World.heap_drewN] at h_); omega)
  have hc2_1_0 := fun o => hc2 (w1.heap.size) o (by (try simp only [World.size_alloc, World.size_setCell, World.size_drew, World.heap_drewN]); omega)
  have hf2_1_0 := fun o => hf2 (w1.heap.size) o (by (try simp only [World.size_alloc, World.size_setCell, World.size_drew, World.heap_drewN]); omega)
  have HB2 : Below w.heap.size w w2 := vbelow_step (by repeat (first | (with_reducible exact Below.refl _ _) | (with_reducible exact HB1) | (with_reducible refine vbelow_alloc ?_ _) | (with_reducible refine vbelow_drew ?_) | (with_reducible refine vbelow_drewN ?_ _) | (with_reducible refine vbelow_set ?_ (by first | exact Nat.le_refl _ | (dsimp only; omega) | omega)))) hb2
  clear hc2 hf2 hb2 HB1
  have hz2_1_0 : w1.heap.size < w2.heap.size := (by omega)
  go_wp2_with fail
  refine (spend10_yes 2 1 0 _ (by decide) (by decide) (by decide) (by decide)).mono ?_
  rintro e w3 ⟨rfl, hb3⟩
  obtain ⟨hc3, hf3⟩ := vbcell hb3
  have hz3 : w2.heap.size + 1 ≤ w3.heap.size := (by have h_ := hb3.size; (try simp only [World.size_alloc, World.size_setCell, World.size_drew, World.heap_drewN] at h_); omega)
  have hc3_1_0 := fun o => hc3 (w1.heap.size) o (by (try simp only [World.size_alloc, World.size_setCell, World.size_drew, World.heap_drewN]); omega)
  have hf3_1_0 := fun o => hf3 (w1.heap.size) o (by (try simp only [World.size_alloc, World.size_setCell, World.size_drew, World.heap_drewN]); omega)
  have hc3_2_0 := fun o => hc3 (w2.heap.size) o (by (try simp only [World.size_alloc, World.size_setCell, World.size_drew, World.heap_drewN]); omega)
  have hf3_2_0 := fun o => hf3 (w2.heap.size) o (by (try simp only [World.size_alloc, World.size_setCell, World.size_drew, World.heap_drewN]); omega)
  have HB3 : Below w.heap.size w w3 := vbelow_step (by repeat (first | (with_reducible exact Below.refl _ _) | (with_reducible exact HB2) | (with_reducible refine vbelow_alloc ?_ _) | (with_reducible refine vbelow_drew ?_) | (with_reducible refine vbelow_drewN ?_ _) | (with_reducible refine vbelow_set ?_ (by first | exact Nat.le_refl _ | (dsimp only; omega) | omega)))) hb3
  clear hc3 hf3 hb3 HB2
  have hz3_1_0 : w1.heap.size < w3.heap.size := (by omega)
  have hz3_2_0 : w2.heap.size < w3.heap.size := (by omega)
  go_wp2_with fail
  refine (spend10_no 2 2 0 _ (by decide) (by decide)).mono ?_
  rintro e w4 ⟨rfl, hb4⟩
  obtain ⟨hc4, hf4⟩ := vbcell hb4
  have hz4 : w3.heap.size + 1 ≤ w4.heap.size := (by have h_ := hb4.size; (try simp only [World.size_alloc, World.size_setCell, World.size_drew, World.heap_drewN] at h_); omega)
  have hc4_1_0 := fun o => hc4 (w1.heap.size) o (by (try simp only [World.size_alloc, World.size_setCell, World.size_drew, World.heap_drewN]); omega)
  have hf4_1_0 := fun o => hf4 (w1.heap.size) o (by (try simp only [World.size_alloc, World.size_setCell, World.size_drew, World.heap_drewN]); omega)
  have hc4_2_0 := fun o => hc4 (w2.heap.size) o (by (try simp only [World.size_alloc, World.size_setCell, World.size_drew, World.heap_drewN]); omega)
  have hf4_2_0 := fun o => hf4 (w2.heap.size) o (by (try simp only [World.size_alloc, World.size_setCell, World.size_drew, World.heap_drewN]); omega)
  have hc4_3_0 := fun o => hc4 (w3.heap.size) o (by (try simp only [World.size_alloc, World.size_setCell, World.size_drew, World.heap_drewN]); omega)
  have hf4_3_0 := fun o => hf4 (w3.heap.size) o (by (try simp only [World.size_alloc, World.size_setCell, World.size_drew, World.heap_drewN]); omega)
  have HB4 : Below w.heap.size w w4 := vbelow_step (by repeat (first | (with_reducible exact Below.refl _ _) | (with_reducible exact HB3) | (with_reducible refine vbelow_alloc ?_ _) | (with_reducible refine vbelow_drew ?_) | (with_reducible refine vbelow_drewN ?_ _) | (with_reducible refine vbelow_set ?_ (by first | exact Nat.le_refl _ | (dsimp only; omega) | omega)))) hb4
  clear hc4 hf4 hb4 HB3
  have hz4_1_0 : w1.heap.size < w4.heap.size := (by omega)
  have hz4_2_0 : w2.heap.size < w4.heap.size := (by omega)
  have hz4_3_0 : w3.heap.size < w4.heap.size := (by omega)
  go_wp2_with fail
  refine (reset14_yes 2 2 0 _ (by decide) (by decide) (by decide) (by decide)).mono ?_
  rintro e w5 ⟨rfl, hb5⟩
  obtain ⟨hc5, hf5⟩ := vbcell hb5
  have hz5 : w4.heap.size + 1 ≤ w5.heap.size := (by have h_ := hb5.size; (try simp only [World.size_alloc, World.size_setCell, World.size_drew, World.heap_drewN] at h_); omega)
  have hc5_1_0 := fun o => hc5 (w1.heap.size) o (by (try simp only [World.size_alloc, World.size_setCell, World.size_drew, World.heap_drewN]); omega)
  have hf5_1_0 := fun o => hf5 (w1.heap.size) o (by (try simp only [World.size_alloc, World.size_setCell, World.size_drew, World.heap_drewN]); omega)
  have hc5_2_0 := fun o => hc5 (w2.heap.size) o (by (try simp only [World.size_alloc, World.size_setCell, World.size_drew, World.heap_drewN]); omega)
  have hf5_2_0 := fun o => hf5 (w2.heap.size) o (by (try simp only [World.size_alloc, World.size_setCell, World.size_drew, World.heap_drewN]); omega)
  have hc5_3_0 := fun o => hc5 (w3.heap.size) o (by (try simp only [World.size_alloc, World.size_setCell, World.size_drew, World.heap_drewN]); omega)
  have hf5_3_0 := fun o => hf5 (w3.heap.size) o (by (try simp only [World.size_alloc, World.size_setCell, World.size_drew, World.heap_drewN]); omega)
  have hc5_4_0 := fun o => hc5 (w4.heap.size) o (by (try simp only [World.size_alloc, World.size_setCell, World.size_drew, World.heap_drewN]); omega)
  have hf5_4_0 := fun o => hf5 (w4.heap.size) o (by (try simp only [World.size_alloc, World.size_setCell, World.size_drew, World.heap_drewN]); omega)
  have HB5 : Below w.heap.size w w5 := vbelow_step (by repeat (first | (with_reducible exact Below.refl _ _) | (with_reducible exact HB4) | (with_reducible refine vbelow_alloc ?_ _) | (with_reducible refine vbelow_drew ?_) | (with_reducible refine vbelow_drewN ?_ _) | (with_reducible refine vbelow_set ?_ (by first | exact Nat.le_refl _ | (dsimp only; omega) | omega)))) hb5
  clear hc5 hf5 hb5 HB4
  have hz5_1_0 : w1.heap.size < w5.heap.size := (by omega)
  have hz5_2_0 : w2.heap.size < w5.heap.size := (by omega)
  have hz5_3_0 : w3.heap.size < w5.heap.size := (by omega)
  have hz5_4_0 : w4.heap.size < w5.heap.size := (by omega)
  go_wp2_with fail
  refine (back12_0 2 0 1 0 _ (by decide) (by decide)).mono ?_
  rintro e w6 ⟨rfl, hb6⟩
  obtain ⟨hc6, hf6⟩ := vbcell hb6
  have hz6 : w5.heap.size + 1 ≤ w6.heap.size := (by have h_ := hb6.size; (try simp only [World.size_alloc, World.size_setCell, World.size_drew, World.heap_drewN] at h_); omega)
  have hc6_1_0 := fun o => hc6 (w1.heap.size) o (by (try simp only [World.size_alloc, World.size_setCell, World.size_drew, World.heap_drewN]); omega)
  have hf6_1_0 := fun o => hf6 (w1.heap.size) o (by (try simp only [World.size_alloc, World.size_setCell, World.size_drew, World.heap_drewN]); omega)
  have hc6_2_0 := fun o => hc6 (w2.heap.size) o (by (try simp only [World.size_alloc, World.size_setCell, World.size_drew, World.heap_drewN]); omega)
  have hf6_2_0 := fun o => hf6 (w2.heap.size) o (by (try simp only [World.size_alloc, World.size_setCell, World.size_drew, World.heap_drewN]); omega)
  have hc6_3_0 := fun o => hc6 (w3.heap.size) o (by (try simp only [World.size_alloc, World.size_setCell, World.size_drew, World.heap_drewN]); omega)
  have hf6_3_0 := fun o => hf6 (w3.heap.size) o (by (try simp only [World.size_alloc, World.size_setCell, World.size_drew, World.heap_drewN]); omega)
  have hc6_4_0 := fun o => hc6 (w4.heap.size) o (by (try simp only [World.size_alloc, World.size_setCell, World.size_drew, World.heap_drewN]); omega)
  have hf6_4_0 := fun o => hf6 (w4.heap.size) o (by (try simp only [World.size_alloc, World.size_setCell, World.size_drew, World.heap_drewN]); omega)
  have hc6_5_0 := fun o => hc6 (w5.heap.size) o (by (try simp only [World.size_alloc, World.size_setCell, World.size_drew, World.heap_drewN]); omega)
  have hf6_5_0 := fun o => hf6 (w5.heap.size) o (by (try simp only [World.size_alloc, World.size_setCell, World.size_drew, World.heap_drewN]); omega)
  have HB6 : Below w.heap.size w w6 := vbelow_step (by repeat (first | (with_reducible exact Below.refl _ _) | (with_reducible exact HB5) | (with_reducible refine vbelow_alloc ?_ _) | (with_reducible refine vbelow_drew ?_) | (with_reducible refine vbelow_drewN ?_ _) | (with_reducible refine vbelow_set ?_ (by first | exact Nat.le_refl _ | (dsimp only; omega) | omega)))) hb6
  clear hc6 hf6 hb6 HB5
  have hz6_1_0 : w1.heap.size < w6.heap.size := (by omega)
  have hz6_2_0 : w2.heap.size < w6.heap.size := (by omega)
  have hz6_3_0 : w3.heap.size < w6.heap.size := (by omega)
  have hz6_4_0 : w4.heap.size < w6.heap.size := (by omega)
  have hz6_5_0 : w5.heap.size < w6.heap.size := (by omega)
  go_wp2_with fail
  refine (left18_yes 2 0 1 _ (by decide)).mono ?_
  rintro e w7 ⟨rfl, hb7⟩
  obtain ⟨hc7, hf7⟩ := vbcell hb7
  have hz7 : w6.heap.size + 1 ≤ w7.heap.size := (by have h_ := hb7.size; (try simp only [World.size_alloc, World.size_setCell, World.size_drew, World.heap_drewN] at h_); omega)
  have hc7_1_0 := fun o => hc7 (w1.heap.size) o (by (try simp only [World.size_alloc, World.size_setCell, World.size_drew, World.heap_drewN]); omega)
  have hf7_1_0 := fun o => hf7 (w1.heap.size) o (by (try simp only [World.size_alloc, World.size_setCell, World.size_drew, World.heap_drewN]); omega)
  have hc7_2_0 := fun o => hc7 (w2.heap.size) o (by (try simp only [World.size_alloc, World.size_setCell, World.size_drew, World.heap_drewN]); omega)
  have hf7_2_0 := fun o => hf7 (w2.heap.size) o (by (try simp only [World.size_alloc, World.size_setCell, World.size_drew, World.heap_drewN]); omega)
  have hc7_3_0 := fun o => hc7 (w3.heap.size) o (by (try simp only [World.size_alloc, World.size_setCell, World.size_drew, World.heap_drewN]); omega)
  have hf7_3_0 := fun o => hf7 (w3.heap.size) o (by (try simp only [World.size_alloc, World.size_setCell, World.size_drew, World.heap_drewN]); omega)
  have hc7_4_0 := fun o => hc7 (w4.heap.size) o (by (try simp only [World.size_alloc, World.size_setCell, World.size_drew, World.heap_drewN]); omega)
  have hf7_4_0 := fun o => hf7 (w4.heap.size) o (by (try simp only [World.size_alloc, World.size_setCell, World.size_drew, World.heap_drewN]); omega)
  have hc7_5_0 := fun o => hc7 (w5.heap.size) o (by (try simp only [World.size_alloc, World.size_setCell, World.size_drew, World.heap_drewN]); omega)
  have hf7_5_0 := fun o => hf7 (w5.heap.size) o (by (try simp only [World.size_alloc, World.size_setCell, World.size_drew, World.heap_drewN]); omega)
  have hc7_6_0 := fun o => hc7 (w6.heap.size) o (by (try simp only [World.size_alloc, World.size_setCell, World.size_drew, World.heap_drewN]); omega)
  have hf7_6_0 := fun o => hf7 (w6.heap.size) o (by (try simp only [World.size_alloc, World.size_setCell, World.size_drew, World.heap_drewN]); omega)
  have HB7 : Below w.heap.size w w7 := vbelow_step (by repeat (first | (with_reducible exact Below.refl _ _) | (with_reducible exact HB6) | (with_reducible refine vbelow_alloc ?_ _) | (with_reducible refine vbelow_drew ?_) | (with_reducible refine vbelow_drewN ?_ _) | (with_reducible refine vbelow_set ?_ (by first | exact Nat.le_refl _ | (dsimp only; omega) | omega)))) hb7
  clear hc7 hf7 hb7 HB6
  have hz7_1_0 : w1.heap.size < w7.heap.size := (by omega)
  have hz7_2_0 : w2.heap.size < w7.heap.size := (by omega)
  have hz7_3_0 : w3.heap.size < w7.heap.size := (by omega)
  have hz7_4_0 : w4.heap.size < w7.heap.size := (by omega)
  have hz7_5_0 : w5.heap.size < w7.heap.size := (by omega)
  have hz7_6_0 : w6.heap.size < w7.heap.size := (by omega)
  go_wp2
  go_ret
  exact ⟨rfl, (by repeat (first | (with_reducible exact Below.refl _ _) | (with_reducible exact HB7) | (with_reducible refine vbelow_alloc ?_ _) | (with_reducible refine vbelow_drew ?_) | (with_reducible refine vbelow_drewN ?_ _) | (with_reducible refine vbelow_set ?_ (by first | exact Nat.le_refl _ | (dsimp only; omega) | omega))))⟩

end Go.Proofs.Ytfjljlhlifnnlaa.Q
