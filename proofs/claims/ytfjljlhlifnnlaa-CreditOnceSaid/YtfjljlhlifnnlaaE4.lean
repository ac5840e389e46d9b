/- Layer 13: the walk of the law CreditOnce: an epoch's alone. -/
import Derived.Test.YtfjljlhlifnnlaaE2
import Derived.Lib.Hide
namespace Go.Proofs.Ytfjljlhlifnnlaa.Q
open Go.RowKit
set_option linter.unusedVariables false
set_option linter.unusedSimpArgs false

set_option maxHeartbeats 1000000 in
set_option maxRecDepth 100000 in
theorem once5_bad (a b c p : Int) (w : World) (hm : accMay a b c = false) :
    Calls Try.prog 5 #[.agg #[.int .i64 a, .int .i64 b, .int .i64 c], .int .i64 p] w fun e w' => e = .returned (.bool true) ∧ Below w.heap.size w w' := by
  go_enter Try.func5, Try.ntmps5
  go_wp2_with fail
  refine (reset14_bad a b c _ hm).mono ?_
  rintro e w1 ⟨rfl, hb1⟩
  obtain ⟨hc1, hf1⟩ := vbcell hb1
  have hz1 : w.heap.size + 1 ≤ w1.heap.size := (by have h_ := hb1.size; (try simp only [World.size_alloc, World.size_setCell, World.size_drew, World.heap_drewN] at h_); omega)
  have hc1_0_0 := fun o => hc1 (w.heap.size) o (by (try simp only [World.size_alloc, World.size_setCell, World.size_drew, World.heap_drewN]); omega)
  have hf1_0_0 := fun o => hf1 (w.heap.size) o (by (try simp only [World.size_alloc, World.size_setCell, World.size_drew, World.heap_drewN]); omega)
  have HB1 : Below w.heap.size w w1 := vbelow_step (by repeat (first | (with_reducible exact Below.refl _ _) | (with_reducible refine vbelow_alloc ?_ _) | (with_reducible refine vbelow_drew ?_) | (with_reducible refine vbelow_drewN ?_ _) | (with_reducible refine vbelow_set ?_ (by first | exact Nat.le_refl _ | (dsimp only; omega) | omega)))) hb1
  clear hc1 hf1 hb1
  have hz1_0_0 : w.heap.size < w1.heap.size := (by omega)
  go_wp2_with fail
  refine (is17v a b c _ hm).mono ?_
  rintro e w2 ⟨rfl, hb2⟩
  obtain ⟨hc2, hf2⟩ := vbcell hb2
  have hz2 : w1.heap.size + 1 ≤ w2.heap.size := (by have h_ := hb2.size; (try simp only [World.size_alloc, World.size_setCell, World.size_drew, World.heap_drewN] at h_); omega)
  have hc2_0_0 := fun o => hc2 (w.heap.size) o (by (try simp only [World.size_alloc, World.size_setCell, World.size_drew, World.heap_drewN]); omega)
  have hf2_0_0 := fun o => hf2 (w.heap.size) o (by (try simp only [World.size_alloc, World.size_setCell, World.size_drew, World.heap_drewN]); omega)
  have hc2_1_0 := fun o => hc2 (w1.heap.size) o (by (try simp only [World.size_alloc, World.size_setCell, World.size_drew, World.heap_drewN]); omega)
  have hf2_1_0 := fun o => hf2 (w1.heap.size) o (by (try simp only [World.size_alloc, World.size_setCell, World.size_drew, World.heap_drewN]); omega)
  have HB2 : Below w.heap.size w w2 := vbelow_step (by repeat (first | (with_reducible exact Below.refl _ _) | (with_reducible exact HB1) | (with_reducible refine vbelow_alloc ?_ _) | (with_reducible refine vbelow_drew ?_) | (with_reducible refine vbelow_drewN ?_ _) | (with_reducible refine vbelow_set ?_ (by first | exact Nat.le_refl _ | (dsimp only; omega) | omega)))) hb2
  clear hc2 hf2 hb2 HB1
  have hz2_0_0 : w.heap.size < w2.heap.size := (by omega)
  have hz2_1_0 : w1.heap.size < w2.heap.size := (by omega)
  go_wp2_with fail
  refine (alive20 _).mono ?_
  rintro e w3 ⟨rfl, hb3⟩
  obtain ⟨hc3, hf3⟩ := vbcell hb3
  have hz3 : w2.heap.size ≤ w3.heap.size := (by have h_ := hb3.size; (try simp only [World.size_alloc, World.size_setCell, World.size_drew, World.heap_drewN] at h_); omega)
  have hc3_0_0 := fun o => hc3 (w.heap.size) o (by (try simp only [World.size_alloc, World.size_setCell, World.size_drew, World.heap_drewN]); omega)
  have hf3_0_0 := fun o => hf3 (w.heap.size) o (by (try simp only [World.size_alloc, World.size_setCell, World.size_drew, World.heap_drewN]); omega)
  have hc3_1_0 := fun o => hc3 (w1.heap.size) o (by (try simp only [World.size_alloc, World.size_setCell, World.size_drew, World.heap_drewN]); omega)
  have hf3_1_0 := fun o => hf3 (w1.heap.size) o (by (try simp only [World.size_alloc, World.size_setCell, World.size_drew, World.heap_drewN]); omega)
  have HB3 : Below w.heap.size w w3 := vbelow_step (by repeat (first | (with_reducible exact Below.refl _ _) | (with_reducible exact HB2) | (with_reducible refine vbelow_alloc ?_ _) | (with_reducible refine vbelow_drew ?_) | (with_reducible refine vbelow_drewN ?_ _) | (with_reducible refine vbelow_set ?_ (by first | exact Nat.le_refl _ | (dsimp only; omega) | omega)))) hb3
  clear hc3 hf3 hb3 HB2
  have hz3_0_0 : w.heap.size < w3.heap.size := (by omega)
  have hz3_1_0 : w1.heap.size < w3.heap.size := (by omega)
  go_wp2
  go_ret
  exact ⟨rfl, (by repeat (first | (with_reducible exact Below.refl _ _) | (with_reducible exact HB3) | (with_reducible refine vbelow_alloc ?_ _) | (with_reducible refine vbelow_drew ?_) | (with_reducible refine vbelow_drewN ?_ _) | (with_reducible refine vbelow_set ?_ (by first | exact Nat.le_refl _ | (dsimp only; omega) | omega))))⟩

set_option maxHeartbeats 1000000 in
set_option maxRecDepth 100000 in
theorem once5_max (a b c p : Int) (w : World) (hm : accMay a b c = true) (h : ((c : Int) == 1099511627776) = true) :
    Calls Try.prog 5 #[.agg #[.int .i64 a, .int .i64 b, .int .i64 c], .int .i64 p] w fun e w' => e = .returned (.bool true) ∧ Below w.heap.size w w' := by
  go_enter Try.func5, Try.ntmps5
  go_wp2_with fail
  refine (reset14_no a b c _ hm h).mono ?_
  rintro e w1 ⟨rfl, hb1⟩
  obtain ⟨hc1, hf1⟩ := vbcell hb1
  have hz1 : w.heap.size + 1 ≤ w1.heap.size := (by have h_ := hb1.size; (try simp only [World.size_alloc, World.size_setCell, World.size_drew, World.heap_drewN] at h_); omega)
  have hc1_0_0 := fun o => hc1 (w.heap.size) o (by (try simp only [World.size_alloc, World.size_setCell, World.size_drew, World.heap_drewN]); omega)
  have hf1_0_0 := fun o => hf1 (w.heap.size) o (by (try simp only [World.size_alloc, World.size_setCell, World.size_drew, World.heap_drewN]); omega)
  have HB1 : Below w.heap.size w w1 := vbelow_step (by repeat (first | (with_reducible exact Below.refl _ _) | (with_reducible refine vbelow_alloc ?_ _) | (with_reducible refine vbelow_drew ?_) | (with_reducible refine vbelow_drewN ?_ _) | (with_reducible refine vbelow_set ?_ (by first | exact Nat.le_refl _ | (dsimp only; omega) | omega)))) hb1
  clear hc1 hf1 hb1
  have hz1_0_0 : w.heap.size < w1.heap.size := (by omega)
  go_wp2_with fail
  refine (is17v a b c _ hm).mono ?_
  rintro e w2 ⟨rfl, hb2⟩
  obtain ⟨hc2, hf2⟩ := vbcell hb2
  have hz2 : w1.heap.size + 1 ≤ w2.heap.size := (by have h_ := hb2.size; (try simp only [World.size_alloc, World.size_setCell, World.size_drew, World.heap_drewN] at h_); omega)
  have hc2_0_0 := fun o => hc2 (w.heap.size) o (by (try simp only [World.size_alloc, World.size_setCell, World.size_drew, World.heap_drewN]); omega)
  have hf2_0_0 := fun o => hf2 (w.heap.size) o (by (try simp only [World.size_alloc, World.size_setCell, World.size_drew, World.heap_drewN]); omega)
  have hc2_1_0 := fun o => hc2 (w1.heap.size) o (by (try simp only [World.size_alloc, World.size_setCell, World.size_drew, World.heap_drewN]); omega)
  have hf2_1_0 := fun o => hf2 (w1.heap.size) o (by (try simp only [World.size_alloc, World.size_setCell, World.size_drew, World.heap_drewN]); omega)
  have HB2 : Below w.heap.size w w2 := vbelow_step (by repeat (first | (with_reducible exact Below.refl _ _) | (with_reducible exact HB1) | (with_reducible refine vbelow_alloc ?_ _) | (with_reducible refine vbelow_drew ?_) | (with_reducible refine vbelow_drewN ?_ _) | (with_reducible refine vbelow_set ?_ (by first | exact Nat.le_refl _ | (dsimp only; omega) | omega)))) hb2
  clear hc2 hf2 hb2 HB1
  have hz2_0_0 : w.heap.size < w2.heap.size := (by omega)
  have hz2_1_0 : w1.heap.size < w2.heap.size := (by omega)
  go_wp2_with fail
  refine (alive20 _).mono ?_
  rintro e w3 ⟨rfl, hb3⟩
  obtain ⟨hc3, hf3⟩ := vbcell hb3
  have hz3 : w2.heap.size ≤ w3.heap.size := (by have h_ := hb3.size; (try simp only [World.size_alloc, World.size_setCell, World.size_drew, World.heap_drewN] at h_); omega)
  have hc3_0_0 := fun o => hc3 (w.heap.size) o (by (try simp only [World.size_alloc, World.size_setCell, World.size_drew, World.heap_drewN]); omega)
  have hf3_0_0 := fun o => hf3 (w.heap.size) o (by (try simp only [World.size_alloc, World.size_setCell, World.size_drew, World.heap_drewN]); omega)
  have hc3_1_0 := fun o => hc3 (w1.heap.size) o (by (try simp only [World.size_alloc, World.size_setCell, World.size_drew, World.heap_drewN]); omega)
  have hf3_1_0 := fun o => hf3 (w1.heap.size) o (by (try simp only [World.size_alloc, World.size_setCell, World.size_drew, World.heap_drewN]); omega)
  have HB3 : Below w.heap.size w w3 := vbelow_step (by repeat (first | (with_reducible exact Below.refl _ _) | (with_reducible exact HB2) | (with_reducible refine vbelow_alloc ?_ _) | (with_reducible refine vbelow_drew ?_) | (with_reducible refine vbelow_drewN ?_ _) | (with_reducible refine vbelow_set ?_ (by first | exact Nat.le_refl _ | (dsimp only; omega) | omega)))) hb3
  clear hc3 hf3 hb3 HB2
  have hz3_0_0 : w.heap.size < w3.heap.size := (by omega)
  have hz3_1_0 : w1.heap.size < w3.heap.size := (by omega)
  go_wp2
  go_ret
  exact ⟨rfl, (by repeat (first | (with_reducible exact Below.refl _ _) | (with_reducible exact HB3) | (with_reducible refine vbelow_alloc ?_ _) | (with_reducible refine vbelow_drew ?_) | (with_reducible refine vbelow_drewN ?_ _) | (with_reducible refine vbelow_set ?_ (by first | exact Nat.le_refl _ | (dsimp only; omega) | omega))))⟩

set_option maxHeartbeats 1000000 in
set_option maxRecDepth 100000 in
theorem once5_young (a b c p : Int) (w : World) (hm : accMay a b c = true) (h : ((c : Int) == 1099511627776) = false) (h0 : 0 ≤ c) (h1 : c ≤ 1099511627776) (he : c < p) :
    Calls Try.prog 5 #[.agg #[.int .i64 a, .int .i64 b, .int .i64 c], .int .i64 p] w fun e w' => e = .returned (.bool true) ∧ Below w.heap.size w w' := by
  go_enter Try.func5, Try.ntmps5
  go_wp2_with fail
  refine (reset14_yes a b c _ hm h h0 h1).mono ?_
  rintro e w1 ⟨rfl, hb1⟩
  obtain ⟨hc1, hf1⟩ := vbcell hb1
  have hz1 : w.heap.size + 1 ≤ w1.heap.size := (by have h_ := hb1.size; (try simp only [World.size_alloc, World.size_setCell, World.size_drew, World.heap_drewN] at h_); omega)
  have hc1_0_0 := fun o => hc1 (w.heap.size) o (by (try simp only [World.size_alloc, World.size_setCell, World.size_drew, World.heap_drewN]); omega)
  have hf1_0_0 := fun o => hf1 (w.heap.size) o (by (try simp only [World.size_alloc, World.size_setCell, World.size_drew, World.heap_drewN]); omega)
  have HB1 : Below w.heap.size w w1 := vbelow_step (by repeat (first | (with_reducible exact Below.refl _ _) | (with_reducible refine vbelow_alloc ?_ _) | (with_reducible refine vbelow_drew ?_) | (with_reducible refine vbelow_drewN ?_ _) | (with_reducible refine vbelow_set ?_ (by first | exact Nat.le_refl _ | (dsimp only; omega) | omega)))) hb1
  clear hc1 hf1 hb1
  have hz1_0_0 : w.heap.size < w1.heap.size := (by omega)
  go_wp2_with fail
  refine (alive20 _).mono ?_
  rintro e w2 ⟨rfl, hb2⟩
  obtain ⟨hc2, hf2⟩ := vbcell hb2
  have hz2 : w1.heap.size + 1 ≤ w2.heap.size := (by have h_ := hb2.size; (try simp only [World.size_alloc, World.size_setCell, World.size_drew, World.heap_drewN] at h_); omega)
  have hc2_0_0 := fun o => hc2 (w.heap.size) o (by (try simp only [World.size_alloc, World.size_setCell, World.size_drew, World.heap_drewN]); omega)
  have hf2_0_0 := fun o => hf2 (w.heap.size) o (by (try simp only [World.size_alloc, World.size_setCell, World.size_drew, World.heap_drewN]); omega)
  have hc2_1_0 := fun o => hc2 (w1.heap.size) o (by (try simp only [World.size_alloc, World.size_setCell, World.size_drew, World.heap_drewN]); omega)
  have hf2_1_0 := fun o => hf2 (w1.heap.size) o (by (try simp only [World.size_alloc, World.size_setCell, World.size_drew, World.heap_drewN]); omega)
  have HB2 : Below w.heap.size w w2 := vbelow_step (by repeat (first | (with_reducible exact Below.refl _ _) | (with_reducible exact HB1) | (with_reducible refine vbelow_alloc ?_ _) | (with_reducible refine vbelow_drew ?_) | (with_reducible refine vbelow_drewN ?_ _) | (with_reducible refine vbelow_set ?_ (by first | exact Nat.le_refl _ | (dsimp only; omega) | omega)))) hb2
  clear hc2 hf2 hb2 HB1
  have hz2_0_0 : w.heap.size < w2.heap.size := (by omega)
  have hz2_1_0 : w1.heap.size < w2.heap.size := (by omega)
  go_wp2
  go_ret
  exact ⟨rfl, (by repeat (first | (with_reducible exact Below.refl _ _) | (with_reducible exact HB2) | (with_reducible refine vbelow_alloc ?_ _) | (with_reducible refine vbelow_drew ?_) | (with_reducible refine vbelow_drewN ?_ _) | (with_reducible refine vbelow_set ?_ (by first | exact Nat.le_refl _ | (dsimp only; omega) | omega))))⟩

set_option maxHeartbeats 1000000 in
set_option maxRecDepth 100000 in
theorem once5_elder (a b c p : Int) (w : World) (hm : accMay a b c = true) (h : ((c : Int) == 1099511627776) = false) (h0 : 0 ≤ c) (h1 : c ≤ 1099511627776) (he : p ≤ c) :
    Calls Try.prog 5 #[.agg #[.int .i64 a, .int .i64 b, .int .i64 c], .int .i64 p] w fun e w' => e = .returned (.bool true) ∧ Below w.heap.size w w' := by
  obtain ⟨q1, q2, q3, q4, q5, q6⟩ := accMay_yes hm
  have hc1 : c ≤ 1099511627775 := by have h_ := beq_eq_false_iff_ne.mp h; omega
  have m1 : Hid (accMay a 0 (c + 1) = true) := (by simp only [Hid, accMay, Bool.and_eq_true, decide_eq_true_eq]; omega)
  have m2 : Hid (accMay a 1 (c + 1) = true) := (by simp only [Hid, accMay, Bool.and_eq_true, decide_eq_true_eq]; omega)
  have e1 : Hid ((p != c + 1) = true) := (by simp only [Hid, bne_iff_ne]; omega)
  have e2 : Hid (((0 : Int) == a) = false) := (by simp only [Hid, beq_eq_false_iff_ne]; omega)
  go_enter Try.func5, Try.ntmps5
  go_wp2_with fail
  refine (reset14_yes a b c _ hm h h0 h1).mono ?_
  rintro e w1 ⟨rfl, hb1⟩
  obtain ⟨hc1, hf1⟩ := vbcell hb1
  have hz1 : w.heap.size + 1 ≤ w1.heap.size := (by have h_ := hb1.size; (try simp only [World.size_alloc, World.size_setCell, World.size_drew, World.heap_drewN] at h_); omega)
  have hc1_0_0 := fun o => hc1 (w.heap.size) o (by (try simp only [World.size_alloc, World.size_setCell, World.size_drew, World.heap_drewN]); omega)
  have hf1_0_0 := fun o => hf1 (w.heap.size) o (by (try simp only [World.size_alloc, World.size_setCell, World.size_drew, World.heap_drewN]); omega)
  have HB1 : Below w.heap.size w w1 := vbelow_step (by repeat (first | (with_reducible exact Below.refl _ _) | (with_reducible refine vbelow_alloc ?_ _) | (with_reducible refine vbelow_drew ?_) | (with_reducible refine vbelow_drewN ?_ _) | (with_reducible refine vbelow_set ?_ (by first | exact Nat.le_refl _ | (dsimp only; omega) | omega)))) hb1
  clear hc1 hf1 hb1
  have hz1_0_0 : w.heap.size < w1.heap.size := (by omega)
  go_wp2_with fail
  refine (back12_0 a 0 (c + 1) p _ m1.out e1.out).mono ?_
  rintro e w2 ⟨rfl, hb2⟩
  obtain ⟨hc2, hf2⟩ := vbcell hb2
  have hz2 : w1.heap.size + 1 ≤ w2.heap.size := (by have h_ := hb2.size; (try simp only [World.size_alloc, World.size_setCell, World.size_drew, World.heap_drewN] at h_); omega)
  have hc2_0_0 := fun o => hc2 (w.heap.size) o (by (try simp only [World.size_alloc, World.size_setCell, World.size_drew, World.heap_drewN]); omega)
  have hf2_0_0 := fun o => hf2 (w.heap.size) o (by (try simp only [World.size_alloc, World.size_setCell, World.size_drew, World.heap_drewN]); omega)
  have hc2_1_0 := fun o => hc2 (w1.heap.size) o (by (try simp only [World.size_alloc, World.size_setCell, World.size_drew, World.heap_drewN]); omega)
  have hf2_1_0 := fun o => hf2 (w1.heap.size) o (by (try simp only [World.size_alloc, World.size_setCell, World.size_drew, World.heap_drewN]); omega)
  have HB2 : Below w.heap.size w w2 := vbelow_step (by repeat (first | (with_reducible exact Below.refl _ _) | (with_reducible exact HB1) | (with_reducible refine vbelow_alloc ?_ _) | (with_reducible refine vbelow_drew ?_) | (with_reducible refine vbelow_drewN ?_ _) | (with_reducible refine vbelow_set ?_ (by first | exact Nat.le_refl _ | (dsimp only; omega) | omega)))) hb2
  clear hc2 hf2 hb2 HB1
  have hz2_0_0 : w.heap.size < w2.heap.size := (by omega)
  have hz2_1_0 : w1.heap.size < w2.heap.size := (by omega)
  go_wp2_with fail
  refine (spend10_yes a 0 (c + 1) _ m1.out e2.out (by omega) (by omega)).mono ?_
  rintro e w3 ⟨rfl, hb3⟩
  obtain ⟨hc3, hf3⟩ := vbcell hb3
  have hz3 : w2.heap.size + 1 ≤ w3.heap.size := (by have h_ := hb3.size; (try simp only [World.size_alloc, World.size_setCell, World.size_drew, World.heap_drewN] at h_); omega)
  have hc3_0_0 := fun o => hc3 (w.heap.size) o (by (try simp only [World.size_alloc, World.size_setCell, World.size_drew, World.heap_drewN]); omega)
  have hf3_0_0 := fun o => hf3 (w.heap.size) o (by (try simp only [World.size_alloc, World.size_setCell, World.size_drew, World.heap_drewN]); omega)
  have hc3_1_0 := fun o => hc3 (w1.heap.size) o (by (try simp only [World.size_alloc, World.size_setCell, World.size_drew, World.heap_drewN]); omega)
  have hf3_1_0 := fun o => hf3 (w1.heap.size) o (by (try simp only [World.size_alloc, World.size_setCell, World.size_drew, World.heap_drewN]); omega)
  have hc3_2_0 := fun o => hc3 (w2.heap.size) o (by (try simp only [World.size_alloc, World.size_setCell, World.size_drew, World.heap_drewN]); omega)
  have hf3_2_0 := fun o => hf3 (w2.heap.size) o (by (try simp only [World.size_alloc, World.size_setCell, World.size_drew, World.heap_drewN]); omega)
  have HB3 : Below w.heap.size w w3 := vbelow_step (by repeat (first | (with_reducible exact Below.refl _ _) | (with_reducible exact HB2) | (with_reducible refine vbelow_alloc ?_ _) | (with_reducible refine vbelow_drew ?_) | (with_reducible refine vbelow_drewN ?_ _) | (with_reducible refine vbelow_set ?_ (by first | exact Nat.le_refl _ | (dsimp only; omega) | omega)))) hb3
  clear hc3 hf3 hb3 HB2
  have hz3_0_0 : w.heap.size < w3.heap.size := (by omega)
  have hz3_1_0 : w1.heap.size < w3.heap.size := (by omega)
  have hz3_2_0 : w2.heap.size < w3.heap.size := (by omega)
  go_wp2_with fail
  refine (back12_0 a 1 (c + 1) p _ m2.out e1.out).mono ?_
  rintro e w4 ⟨rfl, hb4⟩
  obtain ⟨hc4, hf4⟩ := vbcell hb4
  have hz4 : w3.heap.size + 1 ≤ w4.heap.size := (by have h_ := hb4.size; (try simp only [World.size_alloc, World.size_setCell, World.size_drew, World.heap_drewN] at h_); omega)
  have hc4_0_0 := fun o => hc4 (w.heap.size) o (by (try simp only [World.size_alloc, World.size_setCell, World.size_drew, World.heap_drewN]); omega)
  have hf4_0_0 := fun o => hf4 (w.heap.size) o (by (try simp only [World.size_alloc, World.size_setCell, World.size_drew, World.heap_drewN]); omega)
  have hc4_1_0 := fun o => hc4 (w1.heap.size) o (by (try simp only [World.size_alloc, World.size_setCell, World.size_drew, World.heap_drewN]); omega)
  have hf4_1_0 := fun o => hf4 (w1.heap.size) o (by (try simp only [World.size_alloc, World.size_setCell, World.size_drew, World.heap_drewN]); omega)
  have hc4_2_0 := fun o => hc4 (w2.heap.size) o (by (try simp only [World.size_alloc, World.size_setCell, World.size_drew, World.heap_drewN]); omega)
  have hf4_2_0 := fun o => hf4 (w2.heap.size) o (by (try simp only [World.size_alloc, World.size_setCell, World.size_drew, World.heap_drewN]); omega)
  have hc4_3_0 := fun o => hc4 (w3.heap.size) o (by (try simp only [World.size_alloc, World.size_setCell, World.size_drew, World.heap_drewN]); omega)
  have hf4_3_0 := fun o => hf4 (w3.heap.size) o (by (try simp only [World.size_alloc, World.size_setCell, World.size_drew, World.heap_drewN]); omega)
  have HB4 : Below w.heap.size w w4 := vbelow_step (by repeat (first | (with_reducible exact Below.refl _ _) | (with_reducible exact HB3) | (with_reducible refine vbelow_alloc ?_ _) | (with_reducible refine vbelow_drew ?_) | (with_reducible refine vbelow_drewN ?_ _) | (with_reducible refine vbelow_set ?_ (by first | exact Nat.le_refl _ | (dsimp only; omega) | omega)))) hb4
  clear hc4 hf4 hb4 HB3
  have hz4_0_0 : w.heap.size < w4.heap.size := (by omega)
  have hz4_1_0 : w1.heap.size < w4.heap.size := (by omega)
  have hz4_2_0 : w2.heap.size < w4.heap.size := (by omega)
  have hz4_3_0 : w3.heap.size < w4.heap.size := (by omega)
  go_wp2_with fail
  refine (back12_2 a 1 (c + 1) (c + 1) _ m2.out (by simp) (by decide) (by omega) (by omega)).mono ?_
  rintro e w5 ⟨rfl, hb5⟩
  obtain ⟨hc5, hf5⟩ := vbcell hb5
  have hz5 : w4.heap.size + 1 ≤ w5.heap.size := (by have h_ := hb5.size; (try simp only [World.size_alloc, World.size_setCell, World.size_drew, World.heap_drewN] at h_); omega)
  have hc5_0_0 := fun o => hc5 (w.heap.size) o (by (try simp only [World.size_alloc, World.size_setCell, World.size_drew, World.heap_drewN]); omega)
  have hf5_0_0 := fun o => hf5 (w.heap.size) o (by (try simp only [World.size_alloc, World.size_setCell, World.size_drew, World.heap_drewN]); omega)
  have hc5_1_0 := fun o => hc5 (w1.heap.size) o (by (try simp only [World.size_alloc, World.size_setCell, World.size_drew, World.heap_drewN]); omega)
  have hf5_1_0 := fun o => hf5 (w1.heap.size) o (by (try simp only [World.size_alloc, World.size_setCell, World.size_drew, World.heap_drewN]); omega)
  have hc5_2_0 := fun o => hc5 (w2.heap.size) o (by (try simp only [World.size_alloc, World.size_setCell, World.size_drew, World.heap_drewN]); omega)
  have hf5_2_0 := fun o => hf5 (w2.heap.size) o (by (try simp only [World.size_alloc, World.size_setCell, World.size_drew, World.heap_drewN]); omega)
  have hc5_3_0 := fun o => hc5 (w3.heap.size) o (by (try simp only [World.size_alloc, World.size_setCell, World.size_drew, World.heap_drewN]); omega)
  have hf5_3_0 := fun o => hf5 (w3.heap.size) o (by (try simp only [World.size_alloc, World.size_setCell, World.size_drew, World.heap_drewN]); omega)
  have hc5_4_0 := fun o => hc5 (w4.heap.size) o (by (try simp only [World.size_alloc, World.size_setCell, World.size_drew, World.heap_drewN]); omega)
  have hf5_4_0 := fun o => hf5 (w4.heap.size) o (by (try simp only [World.size_alloc, World.size_setCell, World.size_drew, World.heap_drewN]); omega)
  have HB5 : Below w.heap.size w w5 := vbelow_step (by repeat (first | (with_reducible exact Below.refl _ _) | (with_reducible exact HB4) | (with_reducible refine vbelow_alloc ?_ _) | (with_reducible refine vbelow_drew ?_) | (with_reducible refine vbelow_drewN ?_ _) | (with_reducible refine vbelow_set ?_ (by first | exact Nat.le_refl _ | (dsimp only; omega) | omega)))) hb5
  clear hc5 hf5 hb5 HB4
  have hz5_0_0 : w.heap.size < w5.heap.size := (by omega)
  have hz5_1_0 : w1.heap.size < w5.heap.size := (by omega)
  have hz5_2_0 : w2.heap.size < w5.heap.size := (by omega)
  have hz5_3_0 : w3.heap.size < w5.heap.size := (by omega)
  have hz5_4_0 : w4.heap.size < w5.heap.size := (by omega)
  go_wp2_with fail
  refine (alive20 _).mono ?_
  rintro e w6 ⟨rfl, hb6⟩
  obtain ⟨hc6, hf6⟩ := vbcell hb6
  have hz6 : w5.heap.size + 1 ≤ w6.heap.size := (by have h_ := hb6.size; (try simp only [World.size_alloc, World.size_setCell, World.size_drew, World.heap_drewN] at h_); omega)
  have hc6_0_0 := fun o => hc6 (w.heap.size) o (by (try simp only [World.size_alloc, World.size_setCell, World.size_drew, World.heap_drewN]); omega)
  have hf6_0_0 := fun o => hf6 (w.heap.size) o (by (try simp only [World.size_alloc, World.size_setCell, World.size_drew, World.heap_drewN]); omega)
  have hc6_1_0 := fun o => hc6 (w1.heap.size) o (by (try simp only [World.size_alloc, World.size_setCell, World.size_drew, World.heap_drewN]); omega)
  have hf6_1_0 := fun o => hf6 (w1.heap.size) o (by (try simp only [World.size_alloc, World.size_setCell, World.size_drew, World.heap_drewN]); omega)
  have hc6_2_0 := fun o => hc6 (w2.heap.size) o (by (try simp only [World.size_alloc, World.size_setCell, World.size_drew, World.heap_drewN]); omega)
  have hf6_2_0 := fun o => hf6 (w2.heap.size) o (by (try simp only [World.size_alloc, World.size_setCell, World.size_drew, World.heap_drewN]); omega)
  have hc6_3_0 := fun o => hc6 (w3.heap.size) o (by (try simp only [World.size_alloc, World.size_setCell, World.size_drew, World.heap_drewN]); omega)
  have hf6_3_0 := fun o => hf6 (w3.heap.size) o (by (try simp only [World.size_alloc, World.size_setCell, World.size_drew, World.heap_drewN]); omega)
  have hc6_4_0 := fun o => hc6 (w4.heap.size) o (by (try simp only [World.size_alloc, World.size_setCell, World.size_drew, World.heap_drewN]); omega)
  have hf6_4_0 := fun o => hf6 (w4.heap.size) o (by (try simp only [World.size_alloc, World.size_setCell, World.size_drew, World.heap_drewN]); omega)
  have hc6_5_0 := fun o => hc6 (w5.heap.size) o (by (try simp only [World.size_alloc, World.size_setCell, World.size_drew, World.heap_drewN]); omega)
  have hf6_5_0 := fun o => hf6 (w5.heap.size) o (by (try simp only [World.size_alloc, World.size_setCell, World.size_drew, World.heap_drewN]); omega)
  have HB6 : Below w.heap.size w w6 := vbelow_step (by repeat (first | (with_reducible exact Below.refl _ _) | (with_reducible exact HB5) | (with_reducible refine vbelow_alloc ?_ _) | (with_reducible refine vbelow_drew ?_) | (with_reducible refine vbelow_drewN ?_ _) | (with_reducible refine vbelow_set ?_ (by first | exact Nat.le_refl _ | (dsimp only; omega) | omega)))) hb6
  clear hc6 hf6 hb6 HB5
  have hz6_0_0 : w.heap.size < w6.heap.size := (by omega)
  have hz6_1_0 : w1.heap.size < w6.heap.size := (by omega)
  have hz6_2_0 : w2.heap.size < w6.heap.size := (by omega)
  have hz6_3_0 : w3.heap.size < w6.heap.size := (by omega)
  have hz6_4_0 : w4.heap.size < w6.heap.size := (by omega)
  have hz6_5_0 : w5.heap.size < w6.heap.size := (by omega)
  go_wp2
  go_ret
  exact ⟨rfl, (by repeat (first | (with_reducible exact Below.refl _ _) | (with_reducible exact HB6) | (with_reducible refine vbelow_alloc ?_ _) | (with_reducible refine vbelow_drew ?_) | (with_reducible refine vbelow_drewN ?_ _) | (with_reducible refine vbelow_set ?_ (by first | exact Nat.le_refl _ | (dsimp only; omega) | omega))))⟩

theorem once5 (a b c p : Int) (w : World) : Calls Try.prog 5 #[.agg #[.int .i64 a, .int .i64 b, .int .i64 c], .int .i64 p] w fun e w' => e = .returned (.bool true) ∧ Below w.heap.size w w' := by
  cases hm : accMay a b c with
  | false => exact once5_bad a b c p w hm
  | true =>
    obtain ⟨q1, q2, q3, q4, q5, q6⟩ := accMay_yes hm
    cases h : (c == 1099511627776) with
    | true => exact once5_max a b c p w hm h
    | false =>
      by_cases he : c < p
      · exact once5_young a b c p w hm h q5 q6 he
      · exact once5_elder a b c p w hm h q5 q6 (by omega)

end Go.Proofs.Ytfjljlhlifnnlaa.Q
