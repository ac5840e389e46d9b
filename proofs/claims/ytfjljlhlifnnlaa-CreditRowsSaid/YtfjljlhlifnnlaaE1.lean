/- Layer 13, the accounts: what each function of the program and of the reference gives back, for every account. -/
import Derived.Test.YtfjljlhlifnnlaaV
namespace Go.Proofs.Ytfjljlhlifnnlaa.Q
open Go.RowKit
set_option linter.unusedVariables false
set_option linter.unusedSimpArgs false


def accMay (a b c : Int) : Bool := decide (1 ≤ a) && decide (a ≤ 256) && decide (0 ≤ b) && decide (b ≤ a) && decide (0 ≤ c) && decide (c ≤ 1099511627776)
theorem accMay_yes {a b c : Int} (h : accMay a b c = true) : 1 ≤ a ∧ a ≤ 256 ∧ 0 ≤ b ∧ b ≤ a ∧ 0 ≤ c ∧ c ≤ 1099511627776 := by
  simp only [accMay, Bool.and_eq_true, decide_eq_true_eq] at h
  omega

set_option maxHeartbeats 1000000 in
set_option maxRecDepth 100000 in
theorem may34 (a b c : Int) (w : World) :
    Calls Try.prog 34 #[.agg #[.int .i64 a, .int .i64 b, .int .i64 c]] w fun e w' => e = .returned (.bool (accMay a b c)) ∧ Below w.heap.size w w' := by
  go_enter Try.func34, Try.ntmps34
  go_wp2
  all_goals (go_ret; exact ⟨vret_bool (by simp [accMay, *]; try omega), (by repeat (first | (with_reducible exact Below.refl _ _) | (with_reducible refine vbelow_alloc ?_ _) | (with_reducible refine vbelow_drew ?_) | (with_reducible refine vbelow_drewN ?_ _) | (with_reducible refine vbelow_set ?_ (by first | exact Nat.le_refl _ | (dsimp only; omega) | omega))))⟩)

set_option maxHeartbeats 1000000 in
set_option maxRecDepth 100000 in
theorem is17 (a b c : Int) (w : World) :
    Calls Try.prog 17 #[.agg #[.int .i64 a, .int .i64 b, .int .i64 c]] w fun e w' => e = .returned (.bool (accMay a b c)) ∧ Below w.heap.size w w' := by
  go_enter Try.func17, Try.ntmps17
  go_wp2
  all_goals (go_ret; exact ⟨vret_bool (by simp [accMay, *]; try omega), (by repeat (first | (with_reducible exact Below.refl _ _) | (with_reducible refine vbelow_alloc ?_ _) | (with_reducible refine vbelow_drew ?_) | (with_reducible refine vbelow_drewN ?_ _) | (with_reducible refine vbelow_set ?_ (by first | exact Nat.le_refl _ | (dsimp only; omega) | omega))))⟩)

theorem may34v {v : Bool} (a b c : Int) (w : World) (hm : accMay a b c = v) : Calls Try.prog 34 #[.agg #[.int .i64 a, .int .i64 b, .int .i64 c]] w fun e w' => e = .returned (.bool v) ∧ Below w.heap.size w w' := hm ▸ may34 a b c w
theorem is17v {v : Bool} (a b c : Int) (w : World) (hm : accMay a b c = v) : Calls Try.prog 17 #[.agg #[.int .i64 a, .int .i64 b, .int .i64 c]] w fun e w' => e = .returned (.bool v) ∧ Below w.heap.size w w' := hm ▸ is17 a b c w
set_option maxHeartbeats 1000000 in
set_option maxRecDepth 100000 in
theorem check16_yes (a b c : Int) (w : World) (hm : accMay a b c = true) :
    Calls Try.prog 16 #[.agg #[.int .i64 a, .int .i64 b, .int .i64 c]] w fun e w' => e = .returned (.int .i64 0) ∧ Below w.heap.size w w' := by
  go_enter Try.func16, Try.ntmps16
  go_wp2_with fail
  refine (may34v a b c _ hm).mono ?_
  rintro e w1 ⟨rfl, hb1⟩
  obtain ⟨hc1, hf1⟩ := vbcell hb1
  have hz1 : w.heap.size + 1 ≤ w1.heap.size := (by have h_ := hb1.size; (try simp only [World.size_alloc, World.size_setCell, World.size_drew, World.heap_drewN] at h_); omega)
  have hc1_0_0 := fun o => hc1 (w.heap.size) o (by (try simp only [World.size_alloc, World.size_setCell, World.size_drew, World.heap_drewN]); omega)
  have hf1_0_0 := fun o => hf1 (w.heap.size) o (by (try simp only [World.size_alloc, World.size_setCell, World.size_drew, World.heap_drewN]); omega)
  have HB1 : Below w.heap.size w w1 := vbelow_step (by repeat (first | (with_reducible exact Below.refl _ _) | (with_reducible refine vbelow_alloc ?_ _) | (with_reducible refine vbelow_drew ?_) | (with_reducible refine vbelow_drewN ?_ _) | (with_reducible refine vbelow_set ?_ (by first | exact Nat.le_refl _ | (dsimp only; omega) | omega)))) hb1
  clear hc1 hf1 hb1
  have hz1_0_0 : w.heap.size < w1.heap.size := (by omega)
  go_wp2
  go_ret
  exact ⟨rfl, (by repeat (first | (with_reducible exact Below.refl _ _) | (with_reducible exact HB1) | (with_reducible refine vbelow_alloc ?_ _) | (with_reducible refine vbelow_drew ?_) | (with_reducible refine vbelow_drewN ?_ _) | (with_reducible refine vbelow_set ?_ (by first | exact Nat.le_refl _ | (dsimp only; omega) | omega))))⟩

set_option maxHeartbeats 1000000 in
set_option maxRecDepth 100000 in
theorem check16_no (a b c : Int) (w : World) (hm : accMay a b c = false) :
    Calls Try.prog 16 #[.agg #[.int .i64 a, .int .i64 b, .int .i64 c]] w fun e w' => e = .returned (.int .i64 131) ∧ Below w.heap.size w w' := by
  go_enter Try.func16, Try.ntmps16
  go_wp2_with fail
  refine (may34v a b c _ hm).mono ?_
  rintro e w1 ⟨rfl, hb1⟩
  obtain ⟨hc1, hf1⟩ := vbcell hb1
  have hz1 : w.heap.size + 1 ≤ w1.heap.size := (by have h_ := hb1.size; (try simp only [World.size_alloc, World.size_setCell, World.size_drew, World.heap_drewN] at h_); omega)
  have hc1_0_0 := fun o => hc1 (w.heap.size) o (by (try simp only [World.size_alloc, World.size_setCell, World.size_drew, World.heap_drewN]); omega)
  have hf1_0_0 := fun o => hf1 (w.heap.size) o (by (try simp only [World.size_alloc, World.size_setCell, World.size_drew, World.heap_drewN]); omega)
  have HB1 : Below w.heap.size w w1 := vbelow_step (by repeat (first | (with_reducible exact Below.refl _ _) | (with_reducible refine vbelow_alloc ?_ _) | (with_reducible refine vbelow_drew ?_) | (with_reducible refine vbelow_drewN ?_ _) | (with_reducible refine vbelow_set ?_ (by first | exact Nat.le_refl _ | (dsimp only; omega) | omega)))) hb1
  clear hc1 hf1 hb1
  have hz1_0_0 : w.heap.size < w1.heap.size := (by omega)
  go_wp2
  go_ret
  exact ⟨rfl, (by repeat (first | (with_reducible exact Below.refl _ _) | (with_reducible exact HB1) | (with_reducible refine vbelow_alloc ?_ _) | (with_reducible refine vbelow_drew ?_) | (with_reducible refine vbelow_drewN ?_ _) | (with_reducible refine vbelow_set ?_ (by first | exact Nat.le_refl _ | (dsimp only; omega) | omega))))⟩

set_option maxHeartbeats 1000000 in
set_option maxRecDepth 100000 in
theorem left18_yes (a b c : Int) (w : World) (hm : accMay a b c = true) :
    Calls Try.prog 18 #[.agg #[.int .i64 a, .int .i64 b, .int .i64 c]] w fun e w' => e = .returned (.int .i64 (a - b)) ∧ Below w.heap.size w w' := by
  have hq := accMay_yes hm
  obtain ⟨q1, q2, q3, q4, q5, q6⟩ := hq
  go_enter Try.func18, Try.ntmps18
  go_wp2_with fail
  refine (check16_yes a b c _ hm).mono ?_
  rintro e w1 ⟨rfl, hb1⟩
  obtain ⟨hc1, hf1⟩ := vbcell hb1
  have hz1 : w.heap.size + 1 ≤ w1.heap.size := (by have h_ := hb1.size; (try simp only [World.size_alloc, World.size_setCell, World.size_drew, World.heap_drewN] at h_); omega)
  have hc1_0_0 := fun o => hc1 (w.heap.size) o (by (try simp only [World.size_alloc, World.size_setCell, World.size_drew, World.heap_drewN]); omega)
  have hf1_0_0 := fun o => hf1 (w.heap.size) o (by (try simp only [World.size_alloc, World.size_setCell, World.size_drew, World.heap_drewN]); omega)
  have HB1 : Below w.heap.size w w1 := vbelow_step (by repeat (first | (with_reducible exact Below.refl _ _) | (with_reducible refine vbelow_alloc ?_ _) | (with_reducible refine vbelow_drew ?_) | (with_reducible refine vbelow_drewN ?_ _) | (with_reducible refine vbelow_set ?_ (by first | exact Nat.le_refl _ | (dsimp only; omega) | omega)))) hb1
  clear hc1 hf1 hb1
  have hz1_0_0 : w.heap.size < w1.heap.size := (by omega)
  go_wp2
  go_ret
  exact ⟨rfl, (by repeat (first | (with_reducible exact Below.refl _ _) | (with_reducible exact HB1) | (with_reducible refine vbelow_alloc ?_ _) | (with_reducible refine vbelow_drew ?_) | (with_reducible refine vbelow_drewN ?_ _) | (with_reducible refine vbelow_set ?_ (by first | exact Nat.le_refl _ | (dsimp only; omega) | omega))))⟩

set_option maxHeartbeats 1000000 in
set_option maxRecDepth 100000 in
theorem left18_no (a b c : Int) (w : World) (hm : accMay a b c = false) :
    Calls Try.prog 18 #[.agg #[.int .i64 a, .int .i64 b, .int .i64 c]] w fun e w' => e = .returned (.int .i64 0) ∧ Below w.heap.size w w' := by
  go_enter Try.func18, Try.ntmps18
  go_wp2_with fail
  refine (check16_no a b c _ hm).mono ?_
  rintro e w1 ⟨rfl, hb1⟩
  obtain ⟨hc1, hf1⟩ := vbcell hb1
  have hz1 : w.heap.size + 1 ≤ w1.heap.size := (by have h_ := hb1.size; (try simp only [World.size_alloc, World.size_setCell, World.size_drew, World.heap_drewN] at h_); omega)
  have hc1_0_0 := fun o => hc1 (w.heap.size) o (by (try simp only [World.size_alloc, World.size_setCell, World.size_drew, World.heap_drewN]); omega)
  have hf1_0_0 := fun o => hf1 (w.heap.size) o (by (try simp only [World.size_alloc, World.size_setCell, World.size_drew, World.heap_drewN]); omega)
  have HB1 : Below w.heap.size w w1 := vbelow_step (by repeat (first | (with_reducible exact Below.refl _ _) | (with_reducible refine vbelow_alloc ?_ _) | (with_reducible refine vbelow_drew ?_) | (with_reducible refine vbelow_drewN ?_ _) | (with_reducible refine vbelow_set ?_ (by first | exact Nat.le_refl _ | (dsimp only; omega) | omega)))) hb1
  clear hc1 hf1 hb1
  have hz1_0_0 : w.heap.size < w1.heap.size := (by omega)
  go_wp2
  go_ret
  exact ⟨rfl, (by repeat (first | (with_reducible exact Below.refl _ _) | (with_reducible exact HB1) | (with_reducible refine vbelow_alloc ?_ _) | (with_reducible refine vbelow_drew ?_) | (with_reducible refine vbelow_drewN ?_ _) | (with_reducible refine vbelow_set ?_ (by first | exact Nat.le_refl _ | (dsimp only; omega) | omega))))⟩

set_option maxHeartbeats 1000000 in
set_option maxRecDepth 100000 in
theorem left19_yes (a b c : Int) (w : World) (hm : accMay a b c = true) :
    Calls Try.prog 19 #[.agg #[.int .i64 a, .int .i64 b, .int .i64 c]] w fun e w' => e = .returned (.int .i64 (a - b)) ∧ Below w.heap.size w w' := by
  have hq := accMay_yes hm
  obtain ⟨q1, q2, q3, q4, q5, q6⟩ := hq
  go_enter Try.func19, Try.ntmps19
  go_wp2_with fail
  refine (is17v a b c _ hm).mono ?_
  rintro e w1 ⟨rfl, hb1⟩
  obtain ⟨hc1, hf1⟩ := vbcell hb1
  have hz1 : w.heap.size + 1 ≤ w1.heap.size := (by have h_ := hb1.size; (try simp only [World.size_alloc, World.size_setCell, World.size_drew, World.heap_drewN] at h_); omega)
  have hc1_0_0 := fun o => hc1 (w.heap.size) o (by (try simp only [World.size_alloc, World.size_setCell, World.size_drew, World.heap_drewN]); omega)
  have hf1_0_0 := fun o => hf1 (w.heap.size) o (by (try simp only [World.size_alloc, World.size_setCell, World.size_drew, World.heap_drewN]); omega)
  have HB1 : Below w.heap.size w w1 := vbelow_step (by repeat (first | (with_reducible exact Below.refl _ _) | (with_reducible refine vbelow_alloc ?_ _) | (with_reducible refine vbelow_drew ?_) | (with_reducible refine vbelow_drewN ?_ _) | (with_reducible refine vbelow_set ?_ (by first | exact Nat.le_refl _ | (dsimp only; omega) | omega)))) hb1
  clear hc1 hf1 hb1
  have hz1_0_0 : w.heap.size < w1.heap.size := (by omega)
  go_wp2
  go_ret
  exact ⟨rfl, (by repeat (first | (with_reducible exact Below.refl _ _) | (with_reducible exact HB1) | (with_reducible refine vbelow_alloc ?_ _) | (with_reducible refine vbelow_drew ?_) | (with_reducible refine vbelow_drewN ?_ _) | (with_reducible refine vbelow_set ?_ (by first | exact Nat.le_refl _ | (dsimp only; omega) | omega))))⟩

set_option maxHeartbeats 1000000 in
set_option maxRecDepth 100000 in
theorem left19_no (a b c : Int) (w : World) (hm : accMay a b c = false) :
    Calls Try.prog 19 #[.agg #[.int .i64 a, .int .i64 b, .int .i64 c]] w fun e w' => e = .returned (.int .i64 0) ∧ Below w.heap.size w w' := by
  go_enter Try.func19, Try.ntmps19
  go_wp2_with fail
  refine (is17v a b c _ hm).mono ?_
  rintro e w1 ⟨rfl, hb1⟩
  obtain ⟨hc1, hf1⟩ := vbcell hb1
  have hz1 : w.heap.size + 1 ≤ w1.heap.size := (by have h_ := hb1.size; (try simp only [World.size_alloc, World.size_setCell, World.size_drew, World.heap_drewN] at h_); omega)
  have hc1_0_0 := fun o => hc1 (w.heap.size) o (by (try simp only [World.size_alloc, World.size_setCell, World.size_drew, World.heap_drewN]); omega)
  have hf1_0_0 := fun o => hf1 (w.heap.size) o (by (try simp only [World.size_alloc, World.size_setCell, World.size_drew, World.heap_drewN]); omega)
  have HB1 : Below w.heap.size w w1 := vbelow_step (by repeat (first | (with_reducible exact Below.refl _ _) | (with_reducible refine vbelow_alloc ?_ _) | (with_reducible refine vbelow_drew ?_) | (with_reducible refine vbelow_drewN ?_ _) | (with_reducible refine vbelow_set ?_ (by first | exact Nat.le_refl _ | (dsimp only; omega) | omega)))) hb1
  clear hc1 hf1 hb1
  have hz1_0_0 : w.heap.size < w1.heap.size := (by omega)
  go_wp2
  go_ret
  exact ⟨rfl, (by repeat (first | (with_reducible exact Below.refl _ _) | (with_reducible exact HB1) | (with_reducible refine vbelow_alloc ?_ _) | (with_reducible refine vbelow_drew ?_) | (with_reducible refine vbelow_drewN ?_ _) | (with_reducible refine vbelow_set ?_ (by first | exact Nat.le_refl _ | (dsimp only; omega) | omega))))⟩

set_option maxHeartbeats 1000000 in
set_option maxRecDepth 100000 in
theorem open8_yes (room : Int) (w : World) (hm : accMay room 0 0 = true) :
    Calls Try.prog 8 #[.int .i64 room] w fun e w' => e = .returned (.tuple #[.agg #[.int .i64 room, .int .i64 0, .int .i64 0], .int .i64 0]) ∧ Below w.heap.size w w' := by
  go_enter Try.func8, Try.ntmps8
  go_wp2_with fail
  refine (check16_yes room 0 0 _ hm).mono ?_
  rintro e w1 ⟨rfl, hb1⟩
  obtain ⟨hc1, hf1⟩ := vbcell hb1
  have hz1 : w.heap.size + 1 + 1 ≤ w1.heap.size := (by have h_ := hb1.size; (try simp only [World.size_alloc, World.size_setCell, World.size_drew, World.heap_drewN] at h_); omega)
  have hc1_0_0 := fun o => hc1 (w.heap.size) o (by (try simp only [World.size_alloc, World.size_setCell, World.size_drew, World.heap_drewN]); omega)
  have hf1_0_0 := fun o => hf1 (w.heap.size) o (by (try simp only [World.size_alloc, World.size_setCell, World.size_drew, World.heap_drewN]); omega)
  have hc1_0_1 := fun o => hc1 (w.heap.size + 1) o (by (try simp only [World.size_alloc, World.size_setCell, World.size_drew, World.heap_drewN]); omega)
  have hf1_0_1 := fun o => hf1 (w.heap.size + 1) o (by (try simp only [World.size_alloc, World.size_setCell, World.size_drew, World.heap_drewN]); omega)
  have HB1 : Below w.heap.size w w1 := vbelow_step (by repeat (first | (with_reducible exact Below.refl _ _) | (with_reducible refine vbelow_alloc ?_ _) | (with_reducible refine vbelow_drew ?_) | (with_reducible refine vbelow_drewN ?_ _) | (with_reducible refine vbelow_set ?_ (by first | exact Nat.le_refl _ | (dsimp only; omega) | omega)))) hb1
  clear hc1 hf1 hb1
  have hz1_0_0 : w.heap.size < w1.heap.size := (by omega)
  have hz1_0_1 : w.heap.size + 1 < w1.heap.size := (by omega)
  go_wp2
  refine bodyPost_ret (v := .tuple #[.agg #[.int .i64 room, .int .i64 0, .int .i64 0], .int .i64 0]) (by simp [results, Try.results8, go_sem, *]) rfl ⟨rfl, (by repeat (first | (with_reducible exact Below.refl _ _) | (with_reducible exact HB1) | (with_reducible refine vbelow_alloc ?_ _) | (with_reducible refine vbelow_drew ?_) | (with_reducible refine vbelow_drewN ?_ _) | (with_reducible refine vbelow_set ?_ (by first | exact Nat.le_refl _ | (dsimp only; omega) | omega))))⟩

set_option maxHeartbeats 1000000 in
set_option maxRecDepth 100000 in
theorem open8_no (room : Int) (w : World) (hm : accMay room 0 0 = false) :
    Calls Try.prog 8 #[.int .i64 room] w fun e w' => e = .returned (.tuple #[.agg #[.int .i64 0, .int .i64 0, .int .i64 0], .int .i64 131]) ∧ Below w.heap.size w w' := by
  go_enter Try.func8, Try.ntmps8
  go_wp2_with fail
  refine (check16_no room 0 0 _ hm).mono ?_
  rintro e w1 ⟨rfl, hb1⟩
  obtain ⟨hc1, hf1⟩ := vbcell hb1
  have hz1 : w.heap.size + 1 + 1 ≤ w1.heap.size := (by have h_ := hb1.size; (try simp only [World.size_alloc, World.size_setCell, World.size_drew, World.heap_drewN] at h_); omega)
  have hc1_0_0 := fun o => hc1 (w.heap.size) o (by (try simp only [World.size_alloc, World.size_setCell, World.size_drew, World.heap_drewN]); omega)
  have hf1_0_0 := fun o => hf1 (w.heap.size) o (by (try simp only [World.size_alloc, World.size_setCell, World.size_drew, World.heap_drewN]); omega)
  have hc1_0_1 := fun o => hc1 (w.heap.size + 1) o (by (try simp only [World.size_alloc, World.size_setCell, World.size_drew, World.heap_drewN]); omega)
  have hf1_0_1 := fun o => hf1 (w.heap.size + 1) o (by (try simp only [World.size_alloc, World.size_setCell, World.size_drew, World.heap_drewN]); omega)
  have HB1 : Below w.heap.size w w1 := vbelow_step (by repeat (first | (with_reducible exact Below.refl _ _) | (with_reducible refine vbelow_alloc ?_ _) | (with_reducible refine vbelow_drew ?_) | (with_reducible refine vbelow_drewN ?_ _) | (with_reducible refine vbelow_set ?_ (by first | exact Nat.le_refl _ | (dsimp only; omega) | omega)))) hb1
  clear hc1 hf1 hb1
  have hz1_0_0 : w.heap.size < w1.heap.size := (by omega)
  have hz1_0_1 : w.heap.size + 1 < w1.heap.size := (by omega)
  go_wp2
  refine bodyPost_ret (v := .tuple #[.agg #[.int .i64 0, .int .i64 0, .int .i64 0], .int .i64 131]) (by simp [results, Try.results8, go_sem, *]) rfl ⟨rfl, (by repeat (first | (with_reducible exact Below.refl _ _) | (with_reducible exact HB1) | (with_reducible refine vbelow_alloc ?_ _) | (with_reducible refine vbelow_drew ?_) | (with_reducible refine vbelow_drewN ?_ _) | (with_reducible refine vbelow_set ?_ (by first | exact Nat.le_refl _ | (dsimp only; omega) | omega))))⟩

set_option maxHeartbeats 1000000 in
set_option maxRecDepth 100000 in
theorem open9_yes (room : Int) (w : World) (hm : accMay room 0 0 = true) :
    Calls Try.prog 9 #[.int .i64 room] w fun e w' => e = .returned (.tuple #[.agg #[.int .i64 room, .int .i64 0, .int .i64 0], .int .i64 0]) ∧ Below w.heap.size w w' := by
  go_enter Try.func9, Try.ntmps9
  go_wp2_with fail
  refine (is17v room 0 0 _ hm).mono ?_
  rintro e w1 ⟨rfl, hb1⟩
  obtain ⟨hc1, hf1⟩ := vbcell hb1
  have hz1 : w.heap.size + 1 + 1 ≤ w1.heap.size := (by have h_ := hb1.size; (try simp only [World.size_alloc, World.size_setCell, World.size_drew, World.heap_drewN] at h_); omega)
  have hc1_0_0 := fun o => hc1 (w.heap.size) o (by (try simp only [World.size_alloc, World.size_setCell, World.size_drew, World.heap_drewN]); omega)
  have hf1_0_0 := fun o => hf1 (w.heap.size) o (by (try simp only [World.size_alloc, World.size_setCell, World.size_drew, World.heap_drewN]); omega)
  have hc1_0_1 := fun o => hc1 (w.heap.size + 1) o (by (try simp only [World.size_alloc, World.size_setCell, World.size_drew, World.heap_drewN]); omega)
  have hf1_0_1 := fun o => hf1 (w.heap.size + 1) o (by (try simp only [World.size_alloc, World.size_setCell, World.size_drew, World.heap_drewN]); omega)
  have HB1 : Below w.heap.size w w1 := vbelow_step (by repeat (first | (with_reducible exact Below.refl _ _) | (with_reducible refine vbelow_alloc ?_ _) | (with_reducible refine vbelow_drew ?_) | (with_reducible refine vbelow_drewN ?_ _) | (with_reducible refine vbelow_set ?_ (by first | exact Nat.le_refl _ | (dsimp only; omega) | omega)))) hb1
  clear hc1 hf1 hb1
  have hz1_0_0 : w.heap.size < w1.heap.size := (by omega)
  have hz1_0_1 : w.heap.size + 1 < w1.heap.size := (by omega)
  go_wp2
  refine bodyPost_ret (v := .tuple #[.agg #[.int .i64 room, .int .i64 0, .int .i64 0], .int .i64 0]) (by simp [results, Try.results9, go_sem, *]) rfl ⟨rfl, (by repeat (first | (with_reducible exact Below.refl _ _) | (with_reducible exact HB1) | (with_reducible refine vbelow_alloc ?_ _) | (with_reducible refine vbelow_drew ?_) | (with_reducible refine vbelow_drewN ?_ _) | (with_reducible refine vbelow_set ?_ (by first | exact Nat.le_refl _ | (dsimp only; omega) | omega))))⟩

set_option maxHeartbeats 1000000 in
set_option maxRecDepth 100000 in
theorem open9_no (room : Int) (w : World) (hm : accMay room 0 0 = false) :
    Calls Try.prog 9 #[.int .i64 room] w fun e w' => e = .returned (.tuple #[.agg #[.int .i64 0, .int .i64 0, .int .i64 0], .int .i64 131]) ∧ Below w.heap.size w w' := by
  go_enter Try.func9, Try.ntmps9
  go_wp2_with fail
  refine (is17v room 0 0 _ hm).mono ?_
  rintro e w1 ⟨rfl, hb1⟩
  obtain ⟨hc1, hf1⟩ := vbcell hb1
  have hz1 : w.heap.size + 1 + 1 ≤ w1.heap.size := (by have h_ := hb1.size; (try simp only [World.size_alloc, World.size_setCell, World.size_drew, World.heap_drewN] at h_); omega)
  have hc1_0_0 := fun o => hc1 (w.heap.size) o (by (try simp only [World.size_alloc, World.size_setCell, World.size_drew, World.heap_drewN]); omega)
  have hf1_0_0 := fun o => hf1 (w.heap.size) o (by (try simp only [World.size_alloc, World.size_setCell, World.size_drew, World.heap_drewN]); omega)
  have hc1_0_1 := fun o => hc1 (w.heap.size + 1) o (by (try simp only [World.size_alloc, World.size_setCell, World.size_drew, World.heap_drewN]); omega)
  have hf1_0_1 := fun o => hf1 (w.heap.size + 1) o (by (try simp only [World.size_alloc, World.size_setCell, World.size_drew, World.heap_drewN]); omega)
  have HB1 : Below w.heap.size w w1 := vbelow_step (by repeat (first | (with_reducible exact Below.refl _ _) | (with_reducible refine vbelow_alloc ?_ _) | (with_reducible refine vbelow_drew ?_) | (with_reducible refine vbelow_drewN ?_ _) | (with_reducible refine vbelow_set ?_ (by first | exact Nat.le_refl _ | (dsimp only; omega) | omega)))) hb1
  clear hc1 hf1 hb1
  have hz1_0_0 : w.heap.size < w1.heap.size := (by omega)
  have hz1_0_1 : w.heap.size + 1 < w1.heap.size := (by omega)
  go_wp2
  refine bodyPost_ret (v := .tuple #[.agg #[.int .i64 0, .int .i64 0, .int .i64 0], .int .i64 131]) (by simp [results, Try.results9, go_sem, *]) rfl ⟨rfl, (by repeat (first | (with_reducible exact Below.refl _ _) | (with_reducible exact HB1) | (with_reducible refine vbelow_alloc ?_ _) | (with_reducible refine vbelow_drew ?_) | (with_reducible refine vbelow_drewN ?_ _) | (with_reducible refine vbelow_set ?_ (by first | exact Nat.le_refl _ | (dsimp only; omega) | omega))))⟩

set_option maxHeartbeats 1000000 in
set_option maxRecDepth 100000 in
theorem spend31_no (a b c : Int) (w : World) (h : ((b : Int) == a) = true) :
    Calls Try.prog 31 #[.agg #[.int .i64 a, .int .i64 b, .int .i64 c]] w fun e w' => e = .returned (.tuple #[.agg #[.int .i64 0, .int .i64 0, .int .i64 0], .int .i64 130]) ∧ Below w.heap.size w w' := by
  go_enter Try.func31, Try.ntmps31
  go_wp2
  refine bodyPost_ret (v := .tuple #[.agg #[.int .i64 0, .int .i64 0, .int .i64 0], .int .i64 130]) (by simp [results, Try.results31, go_sem, *]) rfl ⟨rfl, (by repeat (first | (with_reducible exact Below.refl _ _) | (with_reducible refine vbelow_alloc ?_ _) | (with_reducible refine vbelow_drew ?_) | (with_reducible refine vbelow_drewN ?_ _) | (with_reducible refine vbelow_set ?_ (by first | exact Nat.le_refl _ | (dsimp only; omega) | omega))))⟩

set_option maxHeartbeats 1000000 in
set_option maxRecDepth 100000 in
theorem spend31_yes (a b c : Int) (w : World) (h : ((b : Int) == a) = false) (h0 : 0 ≤ b) (h1 : b ≤ 256) :
    Calls Try.prog 31 #[.agg #[.int .i64 a, .int .i64 b, .int .i64 c]] w fun e w' => e = .returned (.tuple #[.agg #[.int .i64 a, .int .i64 (b + 1), .int .i64 c], .int .i64 0]) ∧ Below w.heap.size w w' := by
  go_enter Try.func31, Try.ntmps31
  go_wp2
  refine bodyPost_ret (v := .tuple #[.agg #[.int .i64 a, .int .i64 (b + 1), .int .i64 c], .int .i64 0]) (by simp [results, Try.results31, go_sem, *]) rfl ⟨rfl, (by repeat (first | (with_reducible exact Below.refl _ _) | (with_reducible refine vbelow_alloc ?_ _) | (with_reducible refine vbelow_drew ?_) | (with_reducible refine vbelow_drewN ?_ _) | (with_reducible refine vbelow_set ?_ (by first | exact Nat.le_refl _ | (dsimp only; omega) | omega))))⟩

set_option maxHeartbeats 1000000 in
set_option maxRecDepth 100000 in
theorem reset33_no (a b c : Int) (w : World) (h : ((c : Int) == 1099511627776) = true) :
    Calls Try.prog 33 #[.agg #[.int .i64 a, .int .i64 b, .int .i64 c]] w fun e w' => e = .returned (.tuple #[.agg #[.int .i64 0, .int .i64 0, .int .i64 0], .int .i64 3]) ∧ Below w.heap.size w w' := by
  go_enter Try.func33, Try.ntmps33
  go_wp2
  refine bodyPost_ret (v := .tuple #[.agg #[.int .i64 0, .int .i64 0, .int .i64 0], .int .i64 3]) (by simp [results, Try.results33, go_sem, *]) rfl ⟨rfl, (by repeat (first | (with_reducible exact Below.refl _ _) | (with_reducible refine vbelow_alloc ?_ _) | (with_reducible refine vbelow_drew ?_) | (with_reducible refine vbelow_drewN ?_ _) | (with_reducible refine vbelow_set ?_ (by first | exact Nat.le_refl _ | (dsimp only; omega) | omega))))⟩

set_option maxHeartbeats 1000000 in
set_option maxRecDepth 100000 in
theorem reset33_yes (a b c : Int) (w : World) (h : ((c : Int) == 1099511627776) = false) (h0 : 0 ≤ c) (h1 : c ≤ 1099511627776) :
    Calls Try.prog 33 #[.agg #[.int .i64 a, .int .i64 b, .int .i64 c]] w fun e w' => e = .returned (.tuple #[.agg #[.int .i64 a, .int .i64 0, .int .i64 (c + 1)], .int .i64 0]) ∧ Below w.heap.size w w' := by
  go_enter Try.func33, Try.ntmps33
  go_wp2
  refine bodyPost_ret (v := .tuple #[.agg #[.int .i64 a, .int .i64 0, .int .i64 (c + 1)], .int .i64 0]) (by simp [results, Try.results33, go_sem, *]) rfl ⟨rfl, (by repeat (first | (with_reducible exact Below.refl _ _) | (with_reducible refine vbelow_alloc ?_ _) | (with_reducible refine vbelow_drew ?_) | (with_reducible refine vbelow_drewN ?_ _) | (with_reducible refine vbelow_set ?_ (by first | exact Nat.le_refl _ | (dsimp only; omega) | omega))))⟩

set_option maxHeartbeats 1000000 in
set_option maxRecDepth 100000 in
theorem done30_bad (a b c : Int) (w : World) (fv : Value) (hm : accMay a b c = false) :
    Calls Try.prog 30 #[.agg #[.int .i64 a, .int .i64 b, .int .i64 c], fv] w fun e w' => e = .returned (.tuple #[.agg #[.int .i64 0, .int .i64 0, .int .i64 0], .int .i64 131]) ∧ Below w.heap.size w w' := by
  go_enter Try.func30, Try.ntmps30
  go_wp2_with fail
  refine (may34v a b c _ hm).mono ?_
  rintro e w1 ⟨rfl, hb1⟩
  obtain ⟨hc1, hf1⟩ := vbcell hb1
  have hz1 : w.heap.size + 1 + 1 + 1 ≤ w1.heap.size := (by have h_ := hb1.size; (try simp only [World.size_alloc, World.size_setCell, World.size_drew, World.heap_drewN] at h_); omega)
  have hc1_0_0 := fun o => hc1 (w.heap.size) o (by (try simp only [World.size_alloc, World.size_setCell, World.size_drew, World.heap_drewN]); omega)
  have hf1_0_0 := fun o => hf1 (w.heap.size) o (by (try simp only [World.size_alloc, World.size_setCell, World.size_drew, World.heap_drewN]); omega)
  have hc1_0_1 := fun o => hc1 (w.heap.size + 1) o (by (try simp only [World.size_alloc, World.size_setCell, World.size_drew, World.heap_drewN]); omega)
  have hf1_0_1 := fun o => hf1 (w.heap.size + 1) o (by (try simp only [World.size_alloc, World.size_setCell, World.size_drew, World.heap_drewN]); omega)
  have hc1_0_2 := fun o => hc1 (w.heap.size + 1 + 1) o (by (try simp only [World.size_alloc, World.size_setCell, World.size_drew, World.heap_drewN]); omega)
  have hf1_0_2 := fun o => hf1 (w.heap.size + 1 + 1) o (by (try simp only [World.size_alloc, World.size_setCell, World.size_drew, World.heap_drewN]); omega)
  have HB1 : Below w.heap.size w w1 := vbelow_step (by repeat (first | (with_reducible exact Below.refl _ _) | (with_reducible refine vbelow_alloc ?_ _) | (with_reducible refine vbelow_drew ?_) | (with_reducible refine vbelow_drewN ?_ _) | (with_reducible refine vbelow_set ?_ (by first | exact Nat.le_refl _ | (dsimp only; omega) | omega)))) hb1
  clear hc1 hf1 hb1
  have hz1_0_0 : w.heap.size < w1.heap.size := (by omega)
  have hz1_0_1 : w.heap.size + 1 < w1.heap.size := (by omega)
  have hz1_0_2 : w.heap.size + 1 + 1 < w1.heap.size := (by omega)
  go_wp2
  refine bodyPost_ret (v := .tuple #[.agg #[.int .i64 0, .int .i64 0, .int .i64 0], .int .i64 131]) (by simp [results, Try.results30, go_sem, *]) rfl ⟨rfl, (by repeat (first | (with_reducible exact Below.refl _ _) | (with_reducible exact HB1) | (with_reducible refine vbelow_alloc ?_ _) | (with_reducible refine vbelow_drew ?_) | (with_reducible refine vbelow_drewN ?_ _) | (with_reducible refine vbelow_set ?_ (by first | exact Nat.le_refl _ | (dsimp only; omega) | omega))))⟩

set_option maxHeartbeats 1000000 in
set_option maxRecDepth 100000 in
theorem done30_s0 (a b c : Int) (w : World) (hm : accMay a b c = true) (h : ((b : Int) == a) = true) :
    Calls Try.prog 30 #[.agg #[.int .i64 a, .int .i64 b, .int .i64 c], .func (.func 31) #[] #[]] w fun e w' => e = .returned (.tuple #[.agg #[.int .i64 0, .int .i64 0, .int .i64 0], .int .i64 130]) ∧ Below w.heap.size w w' := by
  go_enter Try.func30, Try.ntmps30
  go_wp2_with fail
  refine (may34v a b c _ hm).mono ?_
  rintro e w1 ⟨rfl, hb1⟩
  obtain ⟨hc1, hf1⟩ := vbcell hb1
  have hz1 : w.heap.size + 1 + 1 + 1 ≤ w1.heap.size := (by have h_ := hb1.size; (try simp only [World.size_alloc, World.size_setCell, World.size_drew, World.heap_drewN] at h_); omega)
  have hc1_0_0 := fun o => hc1 (w.heap.size) o (by (try simp only [World.size_alloc, World.size_setCell, World.size_drew, World.heap_drewN]); omega)
  have hf1_0_0 := fun o => hf1 (w.heap.size) o (by (try simp only [World.size_alloc, World.size_setCell, World.size_drew, World.heap_drewN]); omega)
  have hc1_0_1 := fun o => hc1 (w.heap.size + 1) o (by (try simp only [World.size_alloc, World.size_setCell, World.size_drew, World.heap_drewN]); omega)
  have hf1_0_1 := fun o => hf1 (w.heap.size + 1) o (by (try simp only [World.size_alloc, World.size_setCell, World.size_drew, World.heap_drewN]); omega)
  have hc1_0_2 := fun o => hc1 (w.heap.size + 1 + 1) o (by (try simp only [World.size_alloc, World.size_setCell, World.size_drew, World.heap_drewN]); omega)
  have hf1_0_2 := fun o => hf1 (w.heap.size + 1 + 1) o (by (try simp only [World.size_alloc, World.size_setCell, World.size_drew, World.heap_drewN]); omega)
  have HB1 : Below w.heap.size w w1 := vbelow_step (by repeat (first | (with_reducible exact Below.refl _ _) | (with_reducible refine vbelow_alloc ?_ _) | (with_reducible refine vbelow_drew ?_) | (with_reducible refine vbelow_drewN ?_ _) | (with_reducible refine vbelow_set ?_ (by first | exact Nat.le_refl _ | (dsimp only; omega) | omega)))) hb1
  clear hc1 hf1 hb1
  have hz1_0_0 : w.heap.size < w1.heap.size := (by omega)
  have hz1_0_1 : w.heap.size + 1 < w1.heap.size := (by omega)
  have hz1_0_2 : w.heap.size + 1 + 1 < w1.heap.size := (by omega)
  go_wp2_with fail
  refine (spend31_no a b c _ h).mono ?_
  rintro e w2 ⟨rfl, hb2⟩
  obtain ⟨hc2, hf2⟩ := vbcell hb2
  have hz2 : w1.heap.size ≤ w2.heap.size := (by have h_ := hb2.size; (try simp only [World.size_alloc, World.size_setCell, World.size_drew, World.heap_drewN] at h_); omega)
  have hc2_0_0 := fun o => hc2 (w.heap.size) o (by (try simp only [World.size_alloc, World.size_setCell, World.size_drew, World.heap_drewN]); omega)
  have hf2_0_0 := fun o => hf2 (w.heap.size) o (by (try simp only [World.size_alloc, World.size_setCell, World.size_drew, World.heap_drewN]); omega)
  have hc2_0_1 := fun o => hc2 (w.heap.size + 1) o (by (try simp only [World.size_alloc, World.size_setCell, World.size_drew, World.heap_drewN]); omega)
  have hf2_0_1 := fun o => hf2 (w.heap.size + 1) o (by (try simp only [World.size_alloc, World.size_setCell, World.size_drew, World.heap_drewN]); omega)
  have hc2_0_2 := fun o => hc2 (w.heap.size + 1 + 1) o (by (try simp only [World.size_alloc, World.size_setCell, World.size_drew, World.heap_drewN]); omega)
  have hf2_0_2 := fun o => hf2 (w.heap.size + 1 + 1) o (by (try simp only [World.size_alloc, World.size_setCell, World.size_drew, World.heap_drewN]); omega)
  have HB2 : Below w.heap.size w w2 := vbelow_step (by repeat (first | (with_reducible exact Below.refl _ _) | (with_reducible exact HB1) | (with_reducible refine vbelow_alloc ?_ _) | (with_reducible refine vbelow_drew ?_) | (with_reducible refine vbelow_drewN ?_ _) | (with_reducible refine vbelow_set ?_ (by first | exact Nat.le_refl _ | (dsimp only; omega) | omega)))) hb2
  clear hc2 hf2 hb2 HB1
  have hz2_0_0 : w.heap.size < w2.heap.size := (by omega)
  have hz2_0_1 : w.heap.size + 1 < w2.heap.size := (by omega)
  have hz2_0_2 : w.heap.size + 1 + 1 < w2.heap.size := (by omega)
  go_wp2
  refine bodyPost_ret (v := .tuple #[.agg #[.int .i64 0, .int .i64 0, .int .i64 0], .int .i64 130]) (by simp [results, Try.results30, go_sem, *]) rfl ⟨rfl, (by repeat (first | (with_reducible exact Below.refl _ _) | (with_reducible exact HB2) | (with_reducible refine vbelow_alloc ?_ _) | (with_reducible refine vbelow_drew ?_) | (with_reducible refine vbelow_drewN ?_ _) | (with_reducible refine vbelow_set ?_ (by first | exact Nat.le_refl _ | (dsimp only; omega) | omega))))⟩

set_option maxHeartbeats 1000000 in
set_option maxRecDepth 100000 in
theorem done30_s1 (a b c : Int) (w : World) (hm : accMay a b c = true) (h : ((b : Int) == a) = false) (h0 : 0 ≤ b) (h1 : b ≤ 256) :
    Calls Try.prog 30 #[.agg #[.int .i64 a, .int .i64 b, .int .i64 c], .func (.func 31) #[] #[]] w fun e w' => e = .returned (.tuple #[.agg #[.int .i64 a, .int .i64 (b + 1), .int .i64 c], .int .i64 0]) ∧ Below w.heap.size w w' := by
  go_enter Try.func30, Try.ntmps30
  go_wp2_with fail
  refine (may34v a b c _ hm).mono ?_
  rintro e w1 ⟨rfl, hb1⟩
  obtain ⟨hc1, hf1⟩ := vbcell hb1
  have hz1 : w.heap.size + 1 + 1 + 1 ≤ w1.heap.size := (by have h_ := hb1.size; (try simp only [World.size_alloc, World.size_setCell, World.size_drew, World.heap_drewN] at h_); omega)
  have hc1_0_0 := fun o => hc1 (w.heap.size) o (by (try simp only [World.size_alloc, World.size_setCell, World.size_drew, World.heap_drewN]); omega)
  have hf1_0_0 := fun o => hf1 (w.heap.size) o (by (try simp only [World.size_alloc, World.size_setCell, World.size_drew, World.heap_drewN]); omega)
  have hc1_0_1 := fun o => hc1 (w.heap.size + 1) o (by (try simp only [World.size_alloc, World.size_setCell, World.size_drew, World.heap_drewN]); omega)
  have hf1_0_1 := fun o => hf1 (w.heap.size + 1) o (by (try simp only [World.size_alloc, World.size_setCell, World.size_drew, World.heap_drewN]); omega)
  have hc1_0_2 := fun o => hc1 (w.heap.size + 1 + 1) o (by (try simp only [World.size_alloc, World.size_setCell, World.size_drew, World.heap_drewN]); omega)
  have hf1_0_2 := fun o => hf1 (w.heap.size + 1 + 1) o (by (try simp only [World.size_alloc, World.size_setCell, World.size_drew, World.heap_drewN]); omega)
  have HB1 : Below w.heap.size w w1 := vbelow_step (by repeat (first | (with_reducible exact Below.refl _ _) | (with_reducible refine vbelow_alloc ?_ _) | (with_reducible refine vbelow_drew ?_) | (with_reducible refine vbelow_drewN ?_ _) | (with_reducible refine vbelow_set ?_ (by first | exact Nat.le_refl _ | (dsimp only; omega) | omega)))) hb1
  clear hc1 hf1 hb1
  have hz1_0_0 : w.heap.size < w1.heap.size := (by omega)
  have hz1_0_1 : w.heap.size + 1 < w1.heap.size := (by omega)
  have hz1_0_2 : w.heap.size + 1 + 1 < w1.heap.size := (by omega)
  go_wp2_with fail
  refine (spend31_yes a b c _ h h0 h1).mono ?_
  rintro e w2 ⟨rfl, hb2⟩
  obtain ⟨hc2, hf2⟩ := vbcell hb2
  have hz2 : w1.heap.size ≤ w2.heap.size := (by have h_ := hb2.size; (try simp only [World.size_alloc, World.size_setCell, World.size_drew, World.heap_drewN] at h_); omega)
  have hc2_0_0 := fun o => hc2 (w.heap.size) o (by (try simp only [World.size_alloc, World.size_setCell, World.size_drew, World.heap_drewN]); omega)
  have hf2_0_0 := fun o => hf2 (w.heap.size) o (by (try simp only [World.size_alloc, World.size_setCell, World.size_drew, World.heap_drewN]); omega)
  have hc2_0_1 := fun o => hc2 (w.heap.size + 1) o (by (try simp only [World.size_alloc, World.size_setCell, World.size_drew, World.heap_drewN]); omega)
  have hf2_0_1 := fun o => hf2 (w.heap.size + 1) o (by (try simp only [World.size_alloc, World.size_setCell, World.size_drew, World.heap_drewN]); omega)
  have hc2_0_2 := fun o => hc2 (w.heap.size + 1 + 1) o (by (try simp only [World.size_alloc, World.size_setCell, World.size_drew, World.heap_drewN]); omega)
  have hf2_0_2 := fun o => hf2 (w.heap.size + 1 + 1) o (by (try simp only [World.size_alloc, World.size_setCell, World.size_drew, World.heap_drewN]); omega)
  have HB2 : Below w.heap.size w w2 := vbelow_step (by repeat (first | (with_reducible exact Below.refl _ _) | (with_reducible exact HB1) | (with_reducible refine vbelow_alloc ?_ _) | (with_reducible refine vbelow_drew ?_) | (with_reducible refine vbelow_drewN ?_ _) | (with_reducible refine vbelow_set ?_ (by first | exact Nat.le_refl _ | (dsimp only; omega) | omega)))) hb2
  clear hc2 hf2 hb2 HB1
  have hz2_0_0 : w.heap.size < w2.heap.size := (by omega)
  have hz2_0_1 : w.heap.size + 1 < w2.heap.size := (by omega)
  have hz2_0_2 : w.heap.size + 1 + 1 < w2.heap.size := (by omega)
  go_wp2
  refine bodyPost_ret (v := .tuple #[.agg #[.int .i64 a, .int .i64 (b + 1), .int .i64 c], .int .i64 0]) (by simp [results, Try.results30, go_sem, *]) rfl ⟨rfl, (by repeat (first | (with_reducible exact Below.refl _ _) | (with_reducible exact HB2) | (with_reducible refine vbelow_alloc ?_ _) | (with_reducible refine vbelow_drew ?_) | (with_reducible refine vbelow_drewN ?_ _) | (with_reducible refine vbelow_set ?_ (by first | exact Nat.le_refl _ | (dsimp only; omega) | omega))))⟩

set_option maxHeartbeats 1000000 in
set_option maxRecDepth 100000 in
theorem done30_r0 (a b c : Int) (w : World) (hm : accMay a b c = true) (h : ((c : Int) == 1099511627776) = true) :
    Calls Try.prog 30 #[.agg #[.int .i64 a, .int .i64 b, .int .i64 c], .func (.func 33) #[] #[]] w fun e w' => e = .returned (.tuple #[.agg #[.int .i64 0, .int .i64 0, .int .i64 0], .int .i64 3]) ∧ Below w.heap.size w w' := by
  go_enter Try.func30, Try.ntmps30
  go_wp2_with fail
  refine (may34v a b c _ hm).mono ?_
  rintro e w1 ⟨rfl, hb1⟩
  obtain ⟨hc1, hf1⟩ := vbcell hb1
  have hz1 : w.heap.size + 1 + 1 + 1 ≤ w1.heap.size := (by have h_ := hb1.size; (try simp only [World.size_alloc, World.size_setCell, World.size_drew, World.heap_drewN] at h_); omega)
  have hc1_0_0 := fun o => hc1 (w.heap.size) o (by (try simp only [World.size_alloc, World.size_setCell, World.size_drew, World.heap_drewN]); omega)
  have hf1_0_0 := fun o => hf1 (w.heap.size) o (by (try simp only [World.size_alloc, World.size_setCell, World.size_drew, World.heap_drewN]); omega)
  have hc1_0_1 := fun o => hc1 (w.heap.size + 1) o (by (try simp only [World.size_alloc, World.size_setCell, World.size_drew, World.heap_drewN]); omega)
  have hf1_0_1 := fun o => hf1 (w.heap.size + 1) o (by (try simp only [World.size_alloc, World.size_setCell, World.size_drew, World.heap_drewN]); omega)
  have hc1_0_2 := fun o => hc1 (w.heap.size + 1 + 1) o (by (try simp only [World.size_alloc, World.size_setCell, World.size_drew, World.heap_drewN]); omega)
  have hf1_0_2 := fun o => hf1 (w.heap.size + 1 + 1) o (by (try simp only [World.size_alloc, World.size_setCell, World.size_drew, World.heap_drewN]); omega)
  have HB1 : Below w.heap.size w w1 := vbelow_step (by repeat (first | (with_reducible exact Below.refl _ _) | (with_reducible refine vbelow_alloc ?_ _) | (with_reducible refine vbelow_drew ?_) | (with_reducible refine vbelow_drewN ?_ _) | (with_reducible refine vbelow_set ?_ (by first | exact Nat.le_refl _ | (dsimp only; omega) | omega)))) hb1
  clear hc1 hf1 hb1
  have hz1_0_0 : w.heap.size < w1.heap.size := (by omega)
  have hz1_0_1 : w.heap.size + 1 < w1.heap.size := (by omega)
  have hz1_0_2 : w.heap.size + 1 + 1 < w1.heap.size := (by omega)
  go_wp2_with fail
  refine (reset33_no a b c _ h).mono ?_
  rintro e w2 ⟨rfl, hb2⟩
  obtain ⟨hc2, hf2⟩ := vbcell hb2
  have hz2 : w1.heap.size ≤ w2.heap.size := (by have h_ := hb2.size; (try simp only [World.size_alloc, World.size_setCell, World.size_drew, World.heap_drewN] at h_); omega)
  have hc2_0_0 := fun o => hc2 (w.heap.size) o (by (try simp only [World.size_alloc, World.size_setCell, World.size_drew, World.heap_drewN]); omega)
  have hf2_0_0 := fun o => hf2 (w.heap.size) o (by (try simp only [World.size_alloc, World.size_setCell, World.size_drew, World.heap_drewN]); omega)
  have hc2_0_1 := fun o => hc2 (w.heap.size + 1) o (by (try simp only [World.size_alloc, World.size_setCell, World.size_drew, World.heap_drewN]); omega)
  have hf2_0_1 := fun o => hf2 (w.heap.size + 1) o (by (try simp only [World.size_alloc, World.size_setCell, World.size_drew, World.heap_drewN]); omega)
  have hc2_0_2 := fun o => hc2 (w.heap.size + 1 + 1) o (by (try simp only [World.size_alloc, World.size_setCell, World.size_drew, World.heap_drewN]); omega)
  have hf2_0_2 := fun o => hf2 (w.heap.size + 1 + 1) o (by (try simp only [World.size_alloc, World.size_setCell, World.size_drew, World.heap_drewN]); omega)
  have HB2 : Below w.heap.size w w2 := vbelow_step (by repeat (first | (with_reducible exact Below.refl _ _) | (with_reducible exact HB1) | (with_reducible refine vbelow_alloc ?_ _) | (with_reducible refine vbelow_drew ?_) | (with_reducible refine vbelow_drewN ?_ _) | (with_reducible refine vbelow_set ?_ (by first | exact Nat.le_refl _ | (dsimp only; omega) | omega)))) hb2
  clear hc2 hf2 hb2 HB1
  have hz2_0_0 : w.heap.size < w2.heap.size := (by omega)
  have hz2_0_1 : w.heap.size + 1 < w2.heap.size := (by omega)
  have hz2_0_2 : w.heap.size + 1 + 1 < w2.heap.size := (by omega)
  go_wp2
  refine bodyPost_ret (v := .tuple #[.agg #[.int .i64 0, .int .i64 0, .int .i64 0], .int .i64 3]) (by simp [results, Try.results30, go_sem, *]) rfl ⟨rfl, (by repeat (first | (with_reducible exact Below.refl _ _) | (with_reducible exact HB2) | (with_reducible refine vbelow_alloc ?_ _) | (with_reducible refine vbelow_drew ?_) | (with_reducible refine vbelow_drewN ?_ _) | (with_reducible refine vbelow_set ?_ (by first | exact Nat.le_refl _ | (dsimp only; omega) | omega))))⟩

set_option maxHeartbeats 1000000 in
set_option maxRecDepth 100000 in
theorem done30_r1 (a b c : Int) (w : World) (hm : accMay a b c = true) (h : ((c : Int) == 1099511627776) = false) (h0 : 0 ≤ c) (h1 : c ≤ 1099511627776) :
    Calls Try.prog 30 #[.agg #[.int .i64 a, .int .i64 b, .int .i64 c], .func (.func 33) #[] #[]] w fun e w' => e = .returned (.tuple #[.agg #[.int .i64 a, .int .i64 0, .int .i64 (c + 1)], .int .i64 0]) ∧ Below w.heap.size w w' := by
  go_enter Try.func30, Try.ntmps30
  go_wp2_with fail
  refine (may34v a b c _ hm).mono ?_
  rintro e w1 ⟨rfl, hb1⟩
  obtain ⟨hc1, hf1⟩ := vbcell hb1
  have hz1 : w.heap.size + 1 + 1 + 1 ≤ w1.heap.size := (by have h_ := hb1.size; (try simp only [World.size_alloc, World.size_setCell, World.size_drew, World.heap_drewN] at h_); omega)
  have hc1_0_0 := fun o => hc1 (w.heap.size) o (by (try simp only [World.size_alloc, World.size_setCell, World.size_drew, World.heap_drewN]); omega)
  have hf1_0_0 := fun o => hf1 (w.heap.size) o (by (try simp only [World.size_alloc, World.size_setCell, World.size_drew, World.heap_drewN]); omega)
  have hc1_0_1 := fun o => hc1 (w.heap.size + 1) o (by (try simp only [World.size_alloc, World.size_setCell, World.size_drew, World.heap_drewN]); omega)
  have hf1_0_1 := fun o => hf1 (w.heap.size + 1) o (by (try simp only [World.size_alloc, World.size_setCell, World.size_drew, World.heap_drewN]); omega)
  have hc1_0_2 := fun o => hc1 (w.heap.size + 1 + 1) o (by (try simp only [World.size_alloc, World.size_setCell, World.size_drew, World.heap_drewN]); omega)
  have hf1_0_2 := fun o => hf1 (w.heap.size + 1 + 1) o (by (try simp only [World.size_alloc, World.size_setCell, World.size_drew, World.heap_drewN]); omega)
  have HB1 : Below w.heap.size w w1 := vbelow_step (by repeat (first | (with_reducible exact Below.refl _ _) | (with_reducible refine vbelow_alloc ?_ _) | (with_reducible refine vbelow_drew ?_) | (with_reducible refine vbelow_drewN ?_ _) | (with_reducible refine vbelow_set ?_ (by first | exact Nat.le_refl _ | (dsimp only; omega) | omega)))) hb1
  clear hc1 hf1 hb1
  have hz1_0_0 : w.heap.size < w1.heap.size := (by omega)
  have hz1_0_1 : w.heap.size + 1 < w1.heap.size := (by omega)
  have hz1_0_2 : w.heap.size + 1 + 1 < w1.heap.size := (by omega)
  go_wp2_with fail
  refine (reset33_yes a b c _ h h0 h1).mono ?_
  rintro e w2 ⟨rfl, hb2⟩
  obtain ⟨hc2, hf2⟩ := vbcell hb2
  have hz2 : w1.heap.size ≤ w2.heap.size := (by have h_ := hb2.size; (try simp only [World.size_alloc, World.size_setCell, World.size_drew, World.heap_drewN] at h_); omega)
  have hc2_0_0 := fun o => hc2 (w.heap.size) o (by (try simp only [World.size_alloc, World.size_setCell, World.size_drew, World.heap_drewN]); omega)
  have hf2_0_0 := fun o => hf2 (w.heap.size) o (by (try simp only [World.size_alloc, World.size_setCell, World.size_drew, World.heap_drewN]); omega)
  have hc2_0_1 := fun o => hc2 (w.heap.size + 1) o (by (try simp only [World.size_alloc, World.size_setCell, World.size_drew, World.heap_drewN]); omega)
  have hf2_0_1 := fun o => hf2 (w.heap.size + 1) o (by (try simp only [World.size_alloc, World.size_setCell, World.size_drew, World.heap_drewN]); omega)
  have hc2_0_2 := fun o => hc2 (w.heap.size + 1 + 1) o (by (try simp only [World.size_alloc, World.size_setCell, World.size_drew, World.heap_drewN]); omega)
  have hf2_0_2 := fun o => hf2 (w.heap.size + 1 + 1) o (by (try simp only [World.size_alloc, World.size_setCell, World.size_drew, World.heap_drewN]); omega)
  have HB2 : Below w.heap.size w w2 := vbelow_step (by repeat (first | (with_reducible exact Below.refl _ _) | (with_reducible exact HB1) | (with_reducible refine vbelow_alloc ?_ _) | (with_reducible refine vbelow_drew ?_) | (with_reducible refine vbelow_drewN ?_ _) | (with_reducible refine vbelow_set ?_ (by first | exact Nat.le_refl _ | (dsimp only; omega) | omega)))) hb2
  clear hc2 hf2 hb2 HB1
  have hz2_0_0 : w.heap.size < w2.heap.size := (by omega)
  have hz2_0_1 : w.heap.size + 1 < w2.heap.size := (by omega)
  have hz2_0_2 : w.heap.size + 1 + 1 < w2.heap.size := (by omega)
  go_wp2
  refine bodyPost_ret (v := .tuple #[.agg #[.int .i64 a, .int .i64 0, .int .i64 (c + 1)], .int .i64 0]) (by simp [results, Try.results30, go_sem, *]) rfl ⟨rfl, (by repeat (first | (with_reducible exact Below.refl _ _) | (with_reducible exact HB2) | (with_reducible refine vbelow_alloc ?_ _) | (with_reducible refine vbelow_drew ?_) | (with_reducible refine vbelow_drewN ?_ _) | (with_reducible refine vbelow_set ?_ (by first | exact Nat.le_refl _ | (dsimp only; omega) | omega))))⟩

set_option maxHeartbeats 1000000 in
set_option maxRecDepth 100000 in
theorem spend10_bad (a b c : Int) (w : World) (hm : accMay a b c = false) :
    Calls Try.prog 10 #[.agg #[.int .i64 a, .int .i64 b, .int .i64 c]] w fun e w' => e = .returned (.tuple #[.agg #[.int .i64 0, .int .i64 0, .int .i64 0], .int .i64 131]) ∧ Below w.heap.size w w' := by
  go_enter Try.func10, Try.ntmps10
  go_wp2_with fail
  refine (done30_bad a b c _ _ hm).mono ?_
  rintro e w1 ⟨rfl, hb1⟩
  obtain ⟨hc1, hf1⟩ := vbcell hb1
  have hz1 : w.heap.size + 1 + 1 ≤ w1.heap.size := (by have h_ := hb1.size; (try simp only [World.size_alloc, World.size_setCell, World.size_drew, World.heap_drewN] at h_); omega)
  have hc1_0_0 := fun o => hc1 (w.heap.size) o (by (try simp only [World.size_alloc, World.size_setCell, World.size_drew, World.heap_drewN]); omega)
  have hf1_0_0 := fun o => hf1 (w.heap.size) o (by (try simp only [World.size_alloc, World.size_setCell, World.size_drew, World.heap_drewN]); omega)
  have hc1_0_1 := fun o => hc1 (w.heap.size + 1) o (by (try simp only [World.size_alloc, World.size_setCell, World.size_drew, World.heap_drewN]); omega)
  have hf1_0_1 := fun o => hf1 (w.heap.size + 1) o (by (try simp only [World.size_alloc, World.size_setCell, World.size_drew, World.heap_drewN]); omega)
  have HB1 : Below w.heap.size w w1 := vbelow_step (by repeat (first | (with_reducible exact Below.refl _ _) | (with_reducible refine vbelow_alloc ?_ _) | (with_reducible refine vbelow_drew ?_) | (with_reducible refine vbelow_drewN ?_ _) | (with_reducible refine vbelow_set ?_ (by first | exact Nat.le_refl _ | (dsimp only; omega) | omega)))) hb1
  clear hc1 hf1 hb1
  have hz1_0_0 : w.heap.size < w1.heap.size := (by omega)
  have hz1_0_1 : w.heap.size + 1 < w1.heap.size := (by omega)
  go_wp2
  refine bodyPost_ret (v := .tuple #[.agg #[.int .i64 0, .int .i64 0, .int .i64 0], .int .i64 131]) (by simp [results, Try.results10, go_sem, *]) rfl ⟨rfl, (by repeat (first | (with_reducible exact Below.refl _ _) | (with_reducible exact HB1) | (with_reducible refine vbelow_alloc ?_ _) | (with_reducible refine vbelow_drew ?_) | (with_reducible refine vbelow_drewN ?_ _) | (with_reducible refine vbelow_set ?_ (by first | exact Nat.le_refl _ | (dsimp only; omega) | omega))))⟩

set_option maxHeartbeats 1000000 in
set_option maxRecDepth 100000 in
theorem spend10_no (a b c : Int) (w : World) (hm : accMay a b c = true) (h : ((b : Int) == a) = true) :
    Calls Try.prog 10 #[.agg #[.int .i64 a, .int .i64 b, .int .i64 c]] w fun e w' => e = .returned (.tuple #[.agg #[.int .i64 0, .int .i64 0, .int .i64 0], .int .i64 130]) ∧ Below w.heap.size w w' := by
  go_enter Try.func10, Try.ntmps10
  go_wp2_with fail
  refine (done30_s0 a b c _ hm h).mono ?_
  rintro e w1 ⟨rfl, hb1⟩
  obtain ⟨hc1, hf1⟩ := vbcell hb1
  have hz1 : w.heap.size + 1 + 1 ≤ w1.heap.size := (by have h_ := hb1.size; (try simp only [World.size_alloc, World.size_setCell, World.size_drew, World.heap_drewN] at h_); omega)
  have hc1_0_0 := fun o => hc1 (w.heap.size) o (by (try simp only [World.size_alloc, World.size_setCell, World.size_drew, World.heap_drewN]); omega)
  have hf1_0_0 := fun o => hf1 (w.heap.size) o (by (try simp only [World.size_alloc, World.size_setCell, World.size_drew, World.heap_drewN]); omega)
  have hc1_0_1 := fun o => hc1 (w.heap.size + 1) o (by (try simp only [World.size_alloc, World.size_setCell, World.size_drew, World.heap_drewN]); omega)
  have hf1_0_1 := fun o => hf1 (w.heap.size + 1) o (by (try simp only [World.size_alloc, World.size_setCell, World.size_drew, World.heap_drewN]); omega)
  have HB1 : Below w.heap.size w w1 := vbelow_step (by repeat (first | (with_reducible exact Below.refl _ _) | (with_reducible refine vbelow_alloc ?_ _) | (with_reducible refine vbelow_drew ?_) | (with_reducible refine vbelow_drewN ?_ _) | (with_reducible refine vbelow_set ?_ (by first | exact Nat.le_refl _ | (dsimp only; omega) | omega)))) hb1
  clear hc1 hf1 hb1
  have hz1_0_0 : w.heap.size < w1.heap.size := (by omega)
  have hz1_0_1 : w.heap.size + 1 < w1.heap.size := (by omega)
  go_wp2
  refine bodyPost_ret (v := .tuple #[.agg #[.int .i64 0, .int .i64 0, .int .i64 0], .int .i64 130]) (by simp [results, Try.results10, go_sem, *]) rfl ⟨rfl, (by repeat (first | (with_reducible exact Below.refl _ _) | (with_reducible exact HB1) | (with_reducible refine vbelow_alloc ?_ _) | (with_reducible refine vbelow_drew ?_) | (with_reducible refine vbelow_drewN ?_ _) | (with_reducible refine vbelow_set ?_ (by first | exact Nat.le_refl _ | (dsimp only; omega) | omega))))⟩

set_option maxHeartbeats 1000000 in
set_option maxRecDepth 100000 in
theorem spend10_yes (a b c : Int) (w : World) (hm : accMay a b c = true) (h : ((b : Int) == a) = false) (h0 : 0 ≤ b) (h1 : b ≤ 256) :
    Calls Try.prog 10 #[.agg #[.int .i64 a, .int .i64 b, .int .i64 c]] w fun e w' => e = .returned (.tuple #[.agg #[.int .i64 a, .int .i64 (b + 1), .int .i64 c], .int .i64 0]) ∧ Below w.heap.size w w' := by
  go_enter Try.func10, Try.ntmps10
  go_wp2_with fail
  refine (done30_s1 a b c _ hm h h0 h1).mono ?_
  rintro e w1 ⟨rfl, hb1⟩
  obtain ⟨hc1, hf1⟩ := vbcell hb1
  have hz1 : w.heap.size + 1 + 1 ≤ w1.heap.size := (by have h_ := hb1.size; (try simp only [World.size_alloc, World.size_setCell, World.size_drew, World.heap_drewN] at h_); omega)
  have hc1_0_0 := fun o => hc1 (w.heap.size) o (by (try simp only [World.size_alloc, World.size_setCell, World.size_drew, World.heap_drewN]); omega)
  have hf1_0_0 := fun o => hf1 (w.heap.size) o (by (try simp only [World.size_alloc, World.size_setCell, World.size_drew, World.heap_drewN]); omega)
  have hc1_0_1 := fun o => hc1 (w.heap.size + 1) o (by (try simp only [World.size_alloc, World.size_setCell, World.size_drew, World.heap_drewN]); omega)
  have hf1_0_1 := fun o => hf1 (w.heap.size + 1) o (by (try simp only [World.size_alloc, World.size_setCell, World.size_drew, World.heap_drewN]); omega)
  have HB1 : Below w.heap.size w w1 := vbelow_step (by repeat (first | (with_reducible exact Below.refl _ _) | (with_reducible refine vbelow_alloc ?_ _) | (with_reducible refine vbelow_drew ?_) | (with_reducible refine vbelow_drewN ?_ _) | (with_reducible refine vbelow_set ?_ (by first | exact Nat.le_refl _ | (dsimp only; omega) | omega)))) hb1
  clear hc1 hf1 hb1
  have hz1_0_0 : w.heap.size < w1.heap.size := (by omega)
  have hz1_0_1 : w.heap.size + 1 < w1.heap.size := (by omega)
  go_wp2
  refine bodyPost_ret (v := .tuple #[.agg #[.int .i64 a, .int .i64 (b + 1), .int .i64 c], .int .i64 0]) (by simp [results, Try.results10, go_sem, *]) rfl ⟨rfl, (by repeat (first | (with_reducible exact Below.refl _ _) | (with_reducible exact HB1) | (with_reducible refine vbelow_alloc ?_ _) | (with_reducible refine vbelow_drew ?_) | (with_reducible refine vbelow_drewN ?_ _) | (with_reducible refine vbelow_set ?_ (by first | exact Nat.le_refl _ | (dsimp only; omega) | omega))))⟩

set_option maxHeartbeats 1000000 in
set_option maxRecDepth 100000 in
theorem reset14_bad (a b c : Int) (w : World) (hm : accMay a b c = false) :
    Calls Try.prog 14 #[.agg #[.int .i64 a, .int .i64 b, .int .i64 c]] w fun e w' => e = .returned (.tuple #[.agg #[.int .i64 0, .int .i64 0, .int .i64 0], .int .i64 131]) ∧ Below w.heap.size w w' := by
  go_enter Try.func14, Try.ntmps14
  go_wp2_with fail
  refine (done30_bad a b c _ _ hm).mono ?_
  rintro e w1 ⟨rfl, hb1⟩
  obtain ⟨hc1, hf1⟩ := vbcell hb1
  have hz1 : w.heap.size + 1 + 1 ≤ w1.heap.size := (by have h_ := hb1.size; (try simp only [World.size_alloc, World.size_setCell, World.size_drew, World.heap_drewN] at h_); omega)
  have hc1_0_0 := fun o => hc1 (w.heap.size) o (by (try simp only [World.size_alloc, World.size_setCell, World.size_drew, World.heap_drewN]); omega)
  have hf1_0_0 := fun o => hf1 (w.heap.size) o (by (try simp only [World.size_alloc, World.size_setCell, World.size_drew, World.heap_drewN]); omega)
  have hc1_0_1 := fun o => hc1 (w.heap.size + 1) o (by (try simp only [World.size_alloc, World.size_setCell, World.size_drew, World.heap_drewN]); omega)
  have hf1_0_1 := fun o => hf1 (w.heap.size + 1) o (by (try simp only [World.size_alloc, World.size_setCell, World.size_drew, World.heap_drewN]); omega)
  have HB1 : Below w.heap.size w w1 := vbelow_step (by repeat (first | (with_reducible exact Below.refl _ _) | (with_reducible refine vbelow_alloc ?_ _) | (with_reducible refine vbelow_drew ?_) | (with_reducible refine vbelow_drewN ?_ _) | (with_reducible refine vbelow_set ?_ (by first | exact Nat.le_refl _ | (dsimp only; omega) | omega)))) hb1
  clear hc1 hf1 hb1
  have hz1_0_0 : w.heap.size < w1.heap.size := (by omega)
  have hz1_0_1 : w.heap.size + 1 < w1.heap.size := (by omega)
  go_wp2
  refine bodyPost_ret (v := .tuple #[.agg #[.int .i64 0, .int .i64 0, .int .i64 0], .int .i64 131]) (by simp [results, Try.results14, go_sem, *]) rfl ⟨rfl, (by repeat (first | (with_reducible exact Below.refl _ _) | (with_reducible exact HB1) | (with_reducible refine vbelow_alloc ?_ _) | (with_reducible refine vbelow_drew ?_) | (with_reducible refine vbelow_drewN ?_ _) | (with_reducible refine vbelow_set ?_ (by first | exact Nat.le_refl _ | (dsimp only; omega) | omega))))⟩

set_option maxHeartbeats 1000000 in
set_option maxRecDepth 100000 in
theorem reset14_no (a b c : Int) (w : World) (hm : accMay a b c = true) (h : ((c : Int) == 1099511627776) = true) :
    Calls Try.prog 14 #[.agg #[.int .i64 a, .int .i64 b, .int .i64 c]] w fun e w' => e = .returned (.tuple #[.agg #[.int .i64 0, .int .i64 0, .int .i64 0], .int .i64 3]) ∧ Below w.heap.size w w' := by
  go_enter Try.func14, Try.ntmps14
  go_wp2_with fail
  refine (done30_r0 a b c _ hm h).mono ?_
  rintro e w1 ⟨rfl, hb1⟩
  obtain ⟨hc1, hf1⟩ := vbcell hb1
  have hz1 : w.heap.size + 1 + 1 ≤ w1.heap.size := (by have h_ := hb1.size; (try simp only [World.size_alloc, World.size_setCell, World.size_drew, World.heap_drewN] at h_); omega)
  have hc1_0_0 := fun o => hc1 (w.heap.size) o (by (try simp only [World.size_alloc, World.size_setCell, World.size_drew, World.heap_drewN]); omega)
  have hf1_0_0 := fun o => hf1 (w.heap.size) o (by (try simp only [World.size_alloc, World.size_setCell, World.size_drew, World.heap_drewN]); omega)
  have hc1_0_1 := fun o => hc1 (w.heap.size + 1) o (by (try simp only [World.size_alloc, World.size_setCell, World.size_drew, World.heap_drewN]); omega)
  have hf1_0_1 := fun o => hf1 (w.heap.size + 1) o (by (try simp only [World.size_alloc, World.size_setCell, World.size_drew, World.heap_drewN]); omega)
  have HB1 : Below w.heap.size w w1 := vbelow_step (by repeat (first | (with_reducible exact Below.refl _ _) | (with_reducible refine vbelow_alloc ?_ _) | (with_reducible refine vbelow_drew ?_) | (with_reducible refine vbelow_drewN ?_ _) | (with_reducible refine vbelow_set ?_ (by first | exact Nat.le_refl _ | (dsimp only; omega) | omega)))) hb1
  clear hc1 hf1 hb1
  have hz1_0_0 : w.heap.size < w1.heap.size := (by omega)
  have hz1_0_1 : w.heap.size + 1 < w1.heap.size := (by omega)
  go_wp2
  refine bodyPost_ret (v := .tuple #[.agg #[.int .i64 0, .int .i64 0, .int .i64 0], .int .i64 3]) (by simp [results, Try.results14, go_sem, *]) rfl ⟨rfl, (by repeat (first | (with_reducible exact Below.refl _ _) | (with_reducible exact HB1) | (with_reducible refine vbelow_alloc ?_ _) | (with_reducible refine vbelow_drew ?_) | (with_reducible refine vbelow_drewN ?_ _) | (with_reducible refine vbelow_set ?_ (by first | exact Nat.le_refl _ | (dsimp only; omega) | omega))))⟩

set_option maxHeartbeats 1000000 in
set_option maxRecDepth 100000 in
theorem reset14_yes (a b c : Int) (w : World) (hm : accMay a b c = true) (h : ((c : Int) == 1099511627776) = false) (h0 : 0 ≤ c) (h1 : c ≤ 1099511627776) :
    Calls Try.prog 14 #[.agg #[.int .i64 a, .int .i64 b, .int .i64 c]] w fun e w' => e = .returned (.tuple #[.agg #[.int .i64 a, .int .i64 0, .int .i64 (c + 1)], .int .i64 0]) ∧ Below w.heap.size w w' := by
  go_enter Try.func14, Try.ntmps14
  go_wp2_with fail
  refine (done30_r1 a b c _ hm h h0 h1).mono ?_
  rintro e w1 ⟨rfl, hb1⟩
  obtain ⟨hc1, hf1⟩ := vbcell hb1
  have hz1 : w.heap.size + 1 + 1 ≤ w1.heap.size := (by have h_ := hb1.size; (try simp only [World.size_alloc, World.size_setCell, World.size_drew, World.heap_drewN] at h_); omega)
  have hc1_0_0 := fun o => hc1 (w.heap.size) o (by (try simp only [World.size_alloc, World.size_setCell, World.size_drew, World.heap_drewN]); omega)
  have hf1_0_0 := fun o => hf1 (w.heap.size) o (by (try simp only [World.size_alloc, World.size_setCell, World.size_drew, World.heap_drewN]); omega)
  have hc1_0_1 := fun o => hc1 (w.heap.size + 1) o (by (try simp only [World.size_alloc, World.size_setCell, World.size_drew, World.heap_drewN]); omega)
  have hf1_0_1 := fun o => hf1 (w.heap.size + 1) o (by (try simp only [World.size_alloc, World.size_setCell, World.size_drew, World.heap_drewN]); omega)
  have HB1 : Below w.heap.size w w1 := vbelow_step (by repeat (first | (with_reducible exact Below.refl _ _) | (with_reducible refine vbelow_alloc ?_ _) | (with_reducible refine vbelow_drew ?_) | (with_reducible refine vbelow_drewN ?_ _) | (with_reducible refine vbelow_set ?_ (by first | exact Nat.le_refl _ | (dsimp only; omega) | omega)))) hb1
  clear hc1 hf1 hb1
  have hz1_0_0 : w.heap.size < w1.heap.size := (by omega)
  have hz1_0_1 : w.heap.size + 1 < w1.heap.size := (by omega)
  go_wp2
  refine bodyPost_ret (v := .tuple #[.agg #[.int .i64 a, .int .i64 0, .int .i64 (c + 1)], .int .i64 0]) (by simp [results, Try.results14, go_sem, *]) rfl ⟨rfl, (by repeat (first | (with_reducible exact Below.refl _ _) | (with_reducible exact HB1) | (with_reducible refine vbelow_alloc ?_ _) | (with_reducible refine vbelow_drew ?_) | (with_reducible refine vbelow_drewN ?_ _) | (with_reducible refine vbelow_set ?_ (by first | exact Nat.le_refl _ | (dsimp only; omega) | omega))))⟩

set_option maxHeartbeats 1000000 in
set_option maxRecDepth 100000 in
theorem spend11_bad (a b c : Int) (w : World) (hm : accMay a b c = false) :
    Calls Try.prog 11 #[.agg #[.int .i64 a, .int .i64 b, .int .i64 c]] w fun e w' => e = .returned (.tuple #[.agg #[.int .i64 0, .int .i64 0, .int .i64 0], .int .i64 131]) ∧ Below w.heap.size w w' := by
  go_enter Try.func11, Try.ntmps11
  go_wp2_with fail
  refine (is17v a b c _ hm).mono ?_
  rintro e w1 ⟨rfl, hb1⟩
  obtain ⟨hc1, hf1⟩ := vbcell hb1
  have hz1 : w.heap.size + 1 + 1 ≤ w1.heap.size := (by have h_ := hb1.size; (try simp only [World.size_alloc, World.size_setCell, World.size_drew, World.heap_drewN] at h_); omega)
  have hc1_0_0 := fun o => hc1 (w.heap.size) o (by (try simp only [World.size_alloc, World.size_setCell, World.size_drew, World.heap_drewN]); omega)
  have hf1_0_0 := fun o => hf1 (w.heap.size) o (by (try simp only [World.size_alloc, World.size_setCell, World.size_drew, World.heap_drewN]); omega)
  have hc1_0_1 := fun o => hc1 (w.heap.size + 1) o (by (try simp only [World.size_alloc, World.size_setCell, World.size_drew, World.heap_drewN]); omega)
  have hf1_0_1 := fun o => hf1 (w.heap.size + 1) o (by (try simp only [World.size_alloc, World.size_setCell, World.size_drew, World.heap_drewN]); omega)
  have HB1 : Below w.heap.size w w1 := vbelow_step (by repeat (first | (with_reducible exact Below.refl _ _) | (with_reducible refine vbelow_alloc ?_ _) | (with_reducible refine vbelow_drew ?_) | (with_reducible refine vbelow_drewN ?_ _) | (with_reducible refine vbelow_set ?_ (by first | exact Nat.le_refl _ | (dsimp only; omega) | omega)))) hb1
  clear hc1 hf1 hb1
  have hz1_0_0 : w.heap.size < w1.heap.size := (by omega)
  have hz1_0_1 : w.heap.size + 1 < w1.heap.size := (by omega)
  go_wp2
  refine bodyPost_ret (v := .tuple #[.agg #[.int .i64 0, .int .i64 0, .int .i64 0], .int .i64 131]) (by simp [results, Try.results11, go_sem, *]) rfl ⟨rfl, (by repeat (first | (with_reducible exact Below.refl _ _) | (with_reducible exact HB1) | (with_reducible refine vbelow_alloc ?_ _) | (with_reducible refine vbelow_drew ?_) | (with_reducible refine vbelow_drewN ?_ _) | (with_reducible refine vbelow_set ?_ (by first | exact Nat.le_refl _ | (dsimp only; omega) | omega))))⟩

set_option maxHeartbeats 1000000 in
set_option maxRecDepth 100000 in
theorem spend11_no (a b c : Int) (w : World) (hm : accMay a b c = true) (h : ((b : Int) == a) = true) :
    Calls Try.prog 11 #[.agg #[.int .i64 a, .int .i64 b, .int .i64 c]] w fun e w' => e = .returned (.tuple #[.agg #[.int .i64 0, .int .i64 0, .int .i64 0], .int .i64 130]) ∧ Below w.heap.size w w' := by
  go_enter Try.func11, Try.ntmps11
  go_wp2_with fail
  refine (is17v a b c _ hm).mono ?_
  rintro e w1 ⟨rfl, hb1⟩
  obtain ⟨hc1, hf1⟩ := vbcell hb1
  have hz1 : w.heap.size + 1 + 1 ≤ w1.heap.size := (by have h_ := hb1.size; (try simp only [World.size_alloc, World.size_setCell, World.size_drew, World.heap_drewN] at h_); omega)
  have hc1_0_0 := fun o => hc1 (w.heap.size) o (by (try simp only [World.size_alloc, World.size_setCell, World.size_drew, World.heap_drewN]); omega)
  have hf1_0_0 := fun o => hf1 (w.heap.size) o (by (try simp only [World.size_alloc, World.size_setCell, World.size_drew, World.heap_drewN]); omega)
  have hc1_0_1 := fun o => hc1 (w.heap.size + 1) o (by (try simp only [World.size_alloc, World.size_setCell, World.size_drew, World.heap_drewN]); omega)
  have hf1_0_1 := fun o => hf1 (w.heap.size + 1) o (by (try simp only [World.size_alloc, World.size_setCell, World.size_drew, World.heap_drewN]); omega)
  have HB1 : Below w.heap.size w w1 := vbelow_step (by repeat (first | (with_reducible exact Below.refl _ _) | (with_reducible refine vbelow_alloc ?_ _) | (with_reducible refine vbelow_drew ?_) | (with_reducible refine vbelow_drewN ?_ _) | (with_reducible refine vbelow_set ?_ (by first | exact Nat.le_refl _ | (dsimp only; omega) | omega)))) hb1
  clear hc1 hf1 hb1
  have hz1_0_0 : w.heap.size < w1.heap.size := (by omega)
  have hz1_0_1 : w.heap.size + 1 < w1.heap.size := (by omega)
  go_wp2
  refine bodyPost_ret (v := .tuple #[.agg #[.int .i64 0, .int .i64 0, .int .i64 0], .int .i64 130]) (by simp [results, Try.results11, go_sem, *]) rfl ⟨rfl, (by repeat (first | (with_reducible exact Below.refl _ _) | (with_reducible exact HB1) | (with_reducible refine vbelow_alloc ?_ _) | (with_reducible refine vbelow_drew ?_) | (with_reducible refine vbelow_drewN ?_ _) | (with_reducible refine vbelow_set ?_ (by first | exact Nat.le_refl _ | (dsimp only; omega) | omega))))⟩

set_option maxHeartbeats 1000000 in
set_option maxRecDepth 100000 in
theorem spend11_yes (a b c : Int) (w : World) (hm : accMay a b c = true) (h : ((b : Int) == a) = false) (h0 : 0 ≤ b) (h1 : b ≤ 256) :
    Calls Try.prog 11 #[.agg #[.int .i64 a, .int .i64 b, .int .i64 c]] w fun e w' => e = .returned (.tuple #[.agg #[.int .i64 a, .int .i64 (b + 1), .int .i64 c], .int .i64 0]) ∧ Below w.heap.size w w' := by
  go_enter Try.func11, Try.ntmps11
  go_wp2_with fail
  refine (is17v a b c _ hm).mono ?_
  rintro e w1 ⟨rfl, hb1⟩
  obtain ⟨hc1, hf1⟩ := vbcell hb1
  have hz1 : w.heap.size + 1 + 1 ≤ w1.heap.size := (by have h_ := hb1.size; (try simp only [World.size_alloc, World.size_setCell, World.size_drew, World.heap_drewN] at h_); omega)
  have hc1_0_0 := fun o => hc1 (w.heap.size) o (by (try simp only [World.size_alloc, World.size_setCell, World.size_drew, World.heap_drewN]); omega)
  have hf1_0_0 := fun o => hf1 (w.heap.size) o (by (try simp only [World.size_alloc, World.size_setCell, World.size_drew, World.heap_drewN]); omega)
  have hc1_0_1 := fun o => hc1 (w.heap.size + 1) o (by (try simp only [World.size_alloc, World.size_setCell, World.size_drew, World.heap_drewN]); omega)
  have hf1_0_1 := fun o => hf1 (w.heap.size + 1) o (by (try simp only [World.size_alloc, World.size_setCell, World.size_drew, World.heap_drewN]); omega)
  have HB1 : Below w.heap.size w w1 := vbelow_step (by repeat (first | (with_reducible exact Below.refl _ _) | (with_reducible refine vbelow_alloc ?_ _) | (with_reducible refine vbelow_drew ?_) | (with_reducible refine vbelow_drewN ?_ _) | (with_reducible refine vbelow_set ?_ (by first | exact Nat.le_refl _ | (dsimp only; omega) | omega)))) hb1
  clear hc1 hf1 hb1
  have hz1_0_0 : w.heap.size < w1.heap.size := (by omega)
  have hz1_0_1 : w.heap.size + 1 < w1.heap.size := (by omega)
  go_wp2
  refine bodyPost_ret (v := .tuple #[.agg #[.int .i64 a, .int .i64 (b + 1), .int .i64 c], .int .i64 0]) (by simp [results, Try.results11, go_sem, *]) rfl ⟨rfl, (by repeat (first | (with_reducible exact Below.refl _ _) | (with_reducible exact HB1) | (with_reducible refine vbelow_alloc ?_ _) | (with_reducible refine vbelow_drew ?_) | (with_reducible refine vbelow_drewN ?_ _) | (with_reducible refine vbelow_set ?_ (by first | exact Nat.le_refl _ | (dsimp only; omega) | omega))))⟩

set_option maxHeartbeats 1000000 in
set_option maxRecDepth 100000 in
theorem reset15_bad (a b c : Int) (w : World) (hm : accMay a b c = false) :
    Calls Try.prog 15 #[.agg #[.int .i64 a, .int .i64 b, .int .i64 c]] w fun e w' => e = .returned (.tuple #[.agg #[.int .i64 0, .int .i64 0, .int .i64 0], .int .i64 131]) ∧ Below w.heap.size w w' := by
  go_enter Try.func15, Try.ntmps15
  go_wp2_with fail
  refine (is17v a b c _ hm).mono ?_
  rintro e w1 ⟨rfl, hb1⟩
  obtain ⟨hc1, hf1⟩ := vbcell hb1
  have hz1 : w.heap.size + 1 + 1 ≤ w1.heap.size := (by have h_ := hb1.size; (try simp only [World.size_alloc, World.size_setCell, World.size_drew, World.heap_drewN] at h_); omega)
  have hc1_0_0 := fun o => hc1 (w.heap.size) o (by (try simp only [World.size_alloc, World.size_setCell, World.size_drew, World.heap_drewN]); omega)
  have hf1_0_0 := fun o => hf1 (w.heap.size) o (by (try simp only [World.size_alloc, World.size_setCell, World.size_drew, World.heap_drewN]); omega)
  have hc1_0_1 := fun o => hc1 (w.heap.size + 1) o (by (try simp only [World.size_alloc, World.size_setCell, World.size_drew, World.heap_drewN]); omega)
  have hf1_0_1 := fun o => hf1 (w.heap.size + 1) o (by (try simp only [World.size_alloc, World.size_setCell, World.size_drew, World.heap_drewN]); omega)
  have HB1 : Below w.heap.size w w1 := vbelow_step (by repeat (first | (with_reducible exact Below.refl _ _) | (with_reducible refine vbelow_alloc ?_ _) | (with_reducible refine vbelow_drew ?_) | (with_reducible refine vbelow_drewN ?_ _) | (with_reducible refine vbelow_set ?_ (by first | exact Nat.le_refl _ | (dsimp only; omega) | omega)))) hb1
  clear hc1 hf1 hb1
  have hz1_0_0 : w.heap.size < w1.heap.size := (by omega)
  have hz1_0_1 : w.heap.size + 1 < w1.heap.size := (by omega)
  go_wp2
  refine bodyPost_ret (v := .tuple #[.agg #[.int .i64 0, .int .i64 0, .int .i64 0], .int .i64 131]) (by simp [results, Try.results15, go_sem, *]) rfl ⟨rfl, (by repeat (first | (with_reducible exact Below.refl _ _) | (with_reducible exact HB1) | (with_reducible refine vbelow_alloc ?_ _) | (with_reducible refine vbelow_drew ?_) | (with_reducible refine vbelow_drewN ?_ _) | (with_reducible refine vbelow_set ?_ (by first | exact Nat.le_refl _ | (dsimp only; omega) | omega))))⟩

set_option maxHeartbeats 1000000 in
set_option maxRecDepth 100000 in
theorem reset15_no (a b c : Int) (w : World) (hm : accMay a b c = true) (h : ((c : Int) == 1099511627776) = true) :
    Calls Try.prog 15 #[.agg #[.int .i64 a, .int .i64 b, .int .i64 c]] w fun e w' => e = .returned (.tuple #[.agg #[.int .i64 0, .int .i64 0, .int .i64 0], .int .i64 3]) ∧ Below w.heap.size w w' := by
  go_enter Try.func15, Try.ntmps15
  go_wp2_with fail
  refine (is17v a b c _ hm).mono ?_
  rintro e w1 ⟨rfl, hb1⟩
  obtain ⟨hc1, hf1⟩ := vbcell hb1
  have hz1 : w.heap.size + 1 + 1 ≤ w1.heap.size := (by have h_ := hb1.size; (try simp only [World.size_alloc, World.size_setCell, World.size_drew, World.heap_drewN] at h_); omega)
  have hc1_0_0 := fun o => hc1 (w.heap.size) o (by (try simp only [World.size_alloc, World.size_setCell, World.size_drew, World.heap_drewN]); omega)
  have hf1_0_0 := fun o => hf1 (w.heap.size) o (by (try simp only [World.size_alloc, World.size_setCell, World.size_drew, World.heap_drewN]); omega)
  have hc1_0_1 := fun o => hc1 (w.heap.size + 1) o (by (try simp only [World.size_alloc, World.size_setCell, World.size_drew, World.heap_drewN]); omega)
  have hf1_0_1 := fun o => hf1 (w.heap.size + 1) o (by (try simp only [World.size_alloc, World.size_setCell, World.size_drew, World.heap_drewN]); omega)
  have HB1 : Below w.heap.size w w1 := vbelow_step (by repeat (first | (with_reducible exact Below.refl _ _) | (with_reducible refine vbelow_alloc ?_ _) | (with_reducible refine vbelow_drew ?_) | (with_reducible refine vbelow_drewN ?_ _) | (with_reducible refine vbelow_set ?_ (by first | exact Nat.le_refl _ | (dsimp only; omega) | omega)))) hb1
  clear hc1 hf1 hb1
  have hz1_0_0 : w.heap.size < w1.heap.size := (by omega)
  have hz1_0_1 : w.heap.size + 1 < w1.heap.size := (by omega)
  go_wp2
  refine bodyPost_ret (v := .tuple #[.agg #[.int .i64 0, .int .i64 0, .int .i64 0], .int .i64 3]) (by simp [results, Try.results15, go_sem, *]) rfl ⟨rfl, (by repeat (first | (with_reducible exact Below.refl _ _) | (with_reducible exact HB1) | (with_reducible refine vbelow_alloc ?_ _) | (with_reducible refine vbelow_drew ?_) | (with_reducible refine vbelow_drewN ?_ _) | (with_reducible refine vbelow_set ?_ (by first | exact Nat.le_refl _ | (dsimp only; omega) | omega))))⟩

set_option maxHeartbeats 1000000 in
set_option maxRecDepth 100000 in
theorem reset15_yes (a b c : Int) (w : World) (hm : accMay a b c = true) (h : ((c : Int) == 1099511627776) = false) (h0 : 0 ≤ c) (h1 : c ≤ 1099511627776) :
    Calls Try.prog 15 #[.agg #[.int .i64 a, .int .i64 b, .int .i64 c]] w fun e w' => e = .returned (.tuple #[.agg #[.int .i64 a, .int .i64 0, .int .i64 (c + 1)], .int .i64 0]) ∧ Below w.heap.size w w' := by
  go_enter Try.func15, Try.ntmps15
  go_wp2_with fail
  refine (is17v a b c _ hm).mono ?_
  rintro e w1 ⟨rfl, hb1⟩
  obtain ⟨hc1, hf1⟩ := vbcell hb1
  have hz1 : w.heap.size + 1 + 1 ≤ w1.heap.size := (by have h_ := hb1.size; (try simp only [World.size_alloc, World.size_setCell, World.size_drew, World.heap_drewN] at h_); omega)
  have hc1_0_0 := fun o => hc1 (w.heap.size) o (by (try simp only [World.size_alloc, World.size_setCell, World.size_drew, World.heap_drewN]); omega)
  have hf1_0_0 := fun o => hf1 (w.heap.size) o (by (try simp only [World.size_alloc, World.size_setCell, World.size_drew, World.heap_drewN]); omega)
  have hc1_0_1 := fun o => hc1 (w.heap.size + 1) o (by (try simp only [World.size_alloc, World.size_setCell, World.size_drew, World.heap_drewN]); omega)
  have hf1_0_1 := fun o => hf1 (w.heap.size + 1) o (by (try simp only [World.size_alloc, World.size_setCell, World.size_drew, World.heap_drewN]); omega)
  have HB1 : Below w.heap.size w w1 := vbelow_step (by repeat (first | (with_reducible exact Below.refl _ _) | (with_reducible refine vbelow_alloc ?_ _) | (with_reducible refine vbelow_drew ?_) | (with_reducible refine vbelow_drewN ?_ _) | (with_reducible refine vbelow_set ?_ (by first | exact Nat.le_refl _ | (dsimp only; omega) | omega)))) hb1
  clear hc1 hf1 hb1
  have hz1_0_0 : w.heap.size < w1.heap.size := (by omega)
  have hz1_0_1 : w.heap.size + 1 < w1.heap.size := (by omega)
  go_wp2
  refine bodyPost_ret (v := .tuple #[.agg #[.int .i64 a, .int .i64 0, .int .i64 (c + 1)], .int .i64 0]) (by simp [results, Try.results15, go_sem, *]) rfl ⟨rfl, (by repeat (first | (with_reducible exact Below.refl _ _) | (with_reducible exact HB1) | (with_reducible refine vbelow_alloc ?_ _) | (with_reducible refine vbelow_drew ?_) | (with_reducible refine vbelow_drewN ?_ _) | (with_reducible refine vbelow_set ?_ (by first | exact Nat.le_refl _ | (dsimp only; omega) | omega))))⟩

set_option maxHeartbeats 1000000 in
set_option maxRecDepth 100000 in
theorem back32_0 (a b c p : Int) (w : World) (g : Nat) (hgl : g < w.heap.size) (hg : w.cell? ⟨g, 0, none⟩ = some (.int .i64 p)) (hp : ((p : Int) != c) = true) :
    Calls Try.prog 32 #[.agg #[.int .i64 a, .int .i64 b, .int .i64 c], .pointer (some ⟨g, 0, none⟩)] w fun e w' => e = .returned (.tuple #[.agg #[.int .i64 a, .int .i64 b, .int .i64 c], .int .i64 0]) ∧ Below w.heap.size w w' := by
  go_enter Try.func32, Try.ntmps32
  go_wp2
  refine bodyPost_ret (v := .tuple #[.agg #[.int .i64 a, .int .i64 b, .int .i64 c], .int .i64 0]) (by simp [results, Try.results32, go_sem, *]) rfl ⟨rfl, (by repeat (first | (with_reducible exact Below.refl _ _) | (with_reducible refine vbelow_alloc ?_ _) | (with_reducible refine vbelow_drew ?_) | (with_reducible refine vbelow_drewN ?_ _) | (with_reducible refine vbelow_set ?_ (by first | exact Nat.le_refl _ | (dsimp only; omega) | omega))))⟩

set_option maxHeartbeats 1000000 in
set_option maxRecDepth 100000 in
theorem back32_1 (a b c p : Int) (w : World) (g : Nat) (hgl : g < w.heap.size) (hg : w.cell? ⟨g, 0, none⟩ = some (.int .i64 p)) (hp : ((p : Int) != c) = false) (hb : ((b : Int) == 0) = true) :
    Calls Try.prog 32 #[.agg #[.int .i64 a, .int .i64 b, .int .i64 c], .pointer (some ⟨g, 0, none⟩)] w fun e w' => e = .returned (.tuple #[.agg #[.int .i64 0, .int .i64 0, .int .i64 0], .int .i64 130]) ∧ Below w.heap.size w w' := by
  go_enter Try.func32, Try.ntmps32
  go_wp2
  refine bodyPost_ret (v := .tuple #[.agg #[.int .i64 0, .int .i64 0, .int .i64 0], .int .i64 130]) (by simp [results, Try.results32, go_sem, *]) rfl ⟨rfl, (by repeat (first | (with_reducible exact Below.refl _ _) | (with_reducible refine vbelow_alloc ?_ _) | (with_reducible refine vbelow_drew ?_) | (with_reducible refine vbelow_drewN ?_ _) | (with_reducible refine vbelow_set ?_ (by first | exact Nat.le_refl _ | (dsimp only; omega) | omega))))⟩

set_option maxHeartbeats 1000000 in
set_option maxRecDepth 100000 in
theorem back32_2 (a b c p : Int) (w : World) (g : Nat) (hgl : g < w.heap.size) (hg : w.cell? ⟨g, 0, none⟩ = some (.int .i64 p)) (hp : ((p : Int) != c) = false) (hb : ((b : Int) == 0) = false) (h0 : 0 ≤ b) (h1 : b ≤ 256) :
    Calls Try.prog 32 #[.agg #[.int .i64 a, .int .i64 b, .int .i64 c], .pointer (some ⟨g, 0, none⟩)] w fun e w' => e = .returned (.tuple #[.agg #[.int .i64 a, .int .i64 (b - 1), .int .i64 c], .int .i64 0]) ∧ Below w.heap.size w w' := by
  go_enter Try.func32, Try.ntmps32
  go_wp2
  refine bodyPost_ret (v := .tuple #[.agg #[.int .i64 a, .int .i64 (b - 1), .int .i64 c], .int .i64 0]) (by simp [results, Try.results32, go_sem, *]) rfl ⟨rfl, (by repeat (first | (with_reducible exact Below.refl _ _) | (with_reducible refine vbelow_alloc ?_ _) | (with_reducible refine vbelow_drew ?_) | (with_reducible refine vbelow_drewN ?_ _) | (with_reducible refine vbelow_set ?_ (by first | exact Nat.le_refl _ | (dsimp only; omega) | omega))))⟩

set_option maxHeartbeats 1000000 in
set_option maxRecDepth 100000 in
theorem done30_b0 (a b c p : Int) (w : World) (g : Nat) (hgl : g < w.heap.size) (hg : w.cell? ⟨g, 0, none⟩ = some (.int .i64 p)) (hm : accMay a b c = true) (hp : ((p : Int) != c) = true) :
    Calls Try.prog 30 #[.agg #[.int .i64 a, .int .i64 b, .int .i64 c], .func (.func 32) #[] #[.pointer (some ⟨g, 0, none⟩)]] w fun e w' => e = .returned (.tuple #[.agg #[.int .i64 a, .int .i64 b, .int .i64 c], .int .i64 0]) ∧ Below w.heap.size w w' := by
  go_enter Try.func30, Try.ntmps30
  go_wp2_with fail
  refine (may34v a b c _ hm).mono ?_
  rintro e w1 ⟨rfl, hb1⟩
  obtain ⟨hc1, hf1⟩ := vbcell hb1
  have hz1 : w.heap.size + 1 + 1 + 1 ≤ w1.heap.size := (by have h_ := hb1.size; (try simp only [World.size_alloc, World.size_setCell, World.size_drew, World.heap_drewN] at h_); omega)
  have hc1_0_0 := fun o => hc1 (w.heap.size) o (by (try simp only [World.size_alloc, World.size_setCell, World.size_drew, World.heap_drewN]); omega)
  have hf1_0_0 := fun o => hf1 (w.heap.size) o (by (try simp only [World.size_alloc, World.size_setCell, World.size_drew, World.heap_drewN]); omega)
  have hc1_0_1 := fun o => hc1 (w.heap.size + 1) o (by (try simp only [World.size_alloc, World.size_setCell, World.size_drew, World.heap_drewN]); omega)
  have hf1_0_1 := fun o => hf1 (w.heap.size + 1) o (by (try simp only [World.size_alloc, World.size_setCell, World.size_drew, World.heap_drewN]); omega)
  have hc1_0_2 := fun o => hc1 (w.heap.size + 1 + 1) o (by (try simp only [World.size_alloc, World.size_setCell, World.size_drew, World.heap_drewN]); omega)
  have hf1_0_2 := fun o => hf1 (w.heap.size + 1 + 1) o (by (try simp only [World.size_alloc, World.size_setCell, World.size_drew, World.heap_drewN]); omega)
  have HB1 : Below w.heap.size w w1 := vbelow_step (by repeat (first | (with_reducible exact Below.refl _ _) | (with_reducible refine vbelow_alloc ?_ _) | (with_reducible refine vbelow_drew ?_) | (with_reducible refine vbelow_drewN ?_ _) | (with_reducible refine vbelow_set ?_ (by first | exact Nat.le_refl _ | (dsimp only; omega) | omega)))) hb1
  have hc1_o0 := HB1.cell (p := ⟨g, 0, none⟩) hgl
  clear hc1 hf1 hb1
  have hz1_0_0 : w.heap.size < w1.heap.size := (by omega)
  have hz1_0_1 : w.heap.size + 1 < w1.heap.size := (by omega)
  have hz1_0_2 : w.heap.size + 1 + 1 < w1.heap.size := (by omega)
  go_wp2_with fail
  refine (back32_0 a b c p _ g (by omega) (by simp [go_sem, *]) hp).mono ?_
  rintro e w2 ⟨rfl, hb2⟩
  obtain ⟨hc2, hf2⟩ := vbcell hb2
  have hz2 : w1.heap.size ≤ w2.heap.size := (by have h_ := hb2.size; (try simp only [World.size_alloc, World.size_setCell, World.size_drew, World.heap_drewN] at h_); omega)
  have hc2_0_0 := fun o => hc2 (w.heap.size) o (by (try simp only [World.size_alloc, World.size_setCell, World.size_drew, World.heap_drewN]); omega)
  have hf2_0_0 := fun o => hf2 (w.heap.size) o (by (try simp only [World.size_alloc, World.size_setCell, World.size_drew, World.heap_drewN]); omega)
  have hc2_0_1 := fun o => hc2 (w.heap.size + 1) o (by (try simp only [World.size_alloc, World.size_setCell, World.size_drew, World.heap_drewN]); omega)
  have hf2_0_1 := fun o => hf2 (w.heap.size + 1) o (by (try simp only [World.size_alloc, World.size_setCell, World.size_drew, World.heap_drewN]); omega)
  have hc2_0_2 := fun o => hc2 (w.heap.size + 1 + 1) o (by (try simp only [World.size_alloc, World.size_setCell, World.size_drew, World.heap_drewN]); omega)
  have hf2_0_2 := fun o => hf2 (w.heap.size + 1 + 1) o (by (try simp only [World.size_alloc, World.size_setCell, World.size_drew, World.heap_drewN]); omega)
  have HB2 : Below w.heap.size w w2 := vbelow_step (by repeat (first | (with_reducible exact Below.refl _ _) | (with_reducible exact HB1) | (with_reducible refine vbelow_alloc ?_ _) | (with_reducible refine vbelow_drew ?_) | (with_reducible refine vbelow_drewN ?_ _) | (with_reducible refine vbelow_set ?_ (by first | exact Nat.le_refl _ | (dsimp only; omega) | omega)))) hb2
  have hc2_o0 := HB2.cell (p := ⟨g, 0, none⟩) hgl
  clear hc2 hf2 hb2 HB1
  have hz2_0_0 : w.heap.size < w2.heap.size := (by omega)
  have hz2_0_1 : w.heap.size + 1 < w2.heap.size := (by omega)
  have hz2_0_2 : w.heap.size + 1 + 1 < w2.heap.size := (by omega)
  go_wp2
  refine bodyPost_ret (v := .tuple #[.agg #[.int .i64 a, .int .i64 b, .int .i64 c], .int .i64 0]) (by simp [results, Try.results30, go_sem, *]) rfl ⟨rfl, (by repeat (first | (with_reducible exact Below.refl _ _) | (with_reducible exact HB2) | (with_reducible refine vbelow_alloc ?_ _) | (with_reducible refine vbelow_drew ?_) | (with_reducible refine vbelow_drewN ?_ _) | (with_reducible refine vbelow_set ?_ (by first | exact Nat.le_refl _ | (dsimp only; omega) | omega))))⟩

set_option maxHeartbeats 1000000 in
set_option maxRecDepth 100000 in
theorem done30_b1 (a b c p : Int) (w : World) (g : Nat) (hgl : g < w.heap.size) (hg : w.cell? ⟨g, 0, none⟩ = some (.int .i64 p)) (hm : accMay a b c = true) (hp : ((p : Int) != c) = false) (hb : ((b : Int) == 0) = true) :
    Calls Try.prog 30 #[.agg #[.int .i64 a, .int .i64 b, .int .i64 c], .func (.func 32) #[] #[.pointer (some ⟨g, 0, none⟩)]] w fun e w' => e = .returned (.tuple #[.agg #[.int .i64 0, .int .i64 0, .int .i64 0], .int .i64 130]) ∧ Below w.heap.size w w' := by
  go_enter Try.func30, Try.ntmps30
  go_wp2_with fail
  refine (may34v a b c _ hm).mono ?_
  rintro e w1 ⟨rfl, hb1⟩
  obtain ⟨hc1, hf1⟩ := vbcell hb1
  have hz1 : w.heap.size + 1 + 1 + 1 ≤ w1.heap.size := (by have h_ := hb1.size; (try simp only [World.size_alloc, World.size_setCell, World.size_drew, World.heap_drewN] at h_); omega)
  have hc1_0_0 := fun o => hc1 (w.heap.size) o (by (try simp only [World.size_alloc, World.size_setCell, World.size_drew, World.heap_drewN]); omega)
  have hf1_0_0 := fun o => hf1 (w.heap.size) o (by (try simp only [World.size_alloc, World.size_setCell, World.size_drew, World.heap_drewN]); omega)
  have hc1_0_1 := fun o => hc1 (w.heap.size + 1) o (by (try simp only [World.size_alloc, World.size_setCell, World.size_drew, World.heap_drewN]); omega)
  have hf1_0_1 := fun o => hf1 (w.heap.size + 1) o (by (try simp only [World.size_alloc, World.size_setCell, World.size_drew, World.heap_drewN]); omega)
  have hc1_0_2 := fun o => hc1 (w.heap.size + 1 + 1) o (by (try simp only [World.size_alloc, World.size_setCell, World.size_drew, World.heap_drewN]); omega)
  have hf1_0_2 := fun o => hf1 (w.heap.size + 1 + 1) o (by (try simp only [World.size_alloc, World.size_setCell, World.size_drew, World.heap_drewN]); omega)
  have HB1 : Below w.heap.size w w1 := vbelow_step (by repeat (first | (with_reducible exact Below.refl _ _) | (with_reducible refine vbelow_alloc ?_ _) | (with_reducible refine vbelow_drew ?_) | (with_reducible refine vbelow_drewN ?_ _) | (with_reducible refine vbelow_set ?_ (by first | exact Nat.le_refl _ | (dsimp only; omega) | omega)))) hb1
  have hc1_o0 := HB1.cell (p := ⟨g, 0, none⟩) hgl
  clear hc1 hf1 hb1
  have hz1_0_0 : w.heap.size < w1.heap.size := (by omega)
  have hz1_0_1 : w.heap.size + 1 < w1.heap.size := (by omega)
  have hz1_0_2 : w.heap.size + 1 + 1 < w1.heap.size := (by omega)
  go_wp2_with fail
  refine (back32_1 a b c p _ g (by omega) (by simp [go_sem, *]) hp hb).mono ?_
  rintro e w2 ⟨rfl, hb2⟩
  obtain ⟨hc2, hf2⟩ := vbcell hb2
  have hz2 : w1.heap.size ≤ w2.heap.size := (by have h_ := hb2.size; (try simp only [World.size_alloc, World.size_setCell, World.size_drew, World.heap_drewN] at h_); omega)
  have hc2_0_0 := fun o => hc2 (w.heap.size) o (by (try simp only [World.size_alloc, World.size_setCell, World.size_drew, World.heap_drewN]); omega)
  have hf2_0_0 := fun o => hf2 (w.heap.size) o (by (try simp only [World.size_alloc, World.size_setCell, World.size_drew, World.heap_drewN]); omega)
  have hc2_0_1 := fun o => hc2 (w.heap.size + 1) o (by (try simp only [World.size_alloc, World.size_setCell, World.size_drew, World.heap_drewN]); omega)
  have hf2_0_1 := fun o => hf2 (w.heap.size + 1) o (by (try simp only [World.size_alloc, World.size_setCell, World.size_drew, World.heap_drewN]); omega)
  have hc2_0_2 := fun o => hc2 (w.heap.size + 1 + 1) o (by (try simp only [World.size_alloc, World.size_setCell, World.size_drew, World.heap_drewN]); omega)
  have hf2_0_2 := fun o => hf2 (w.heap.size + 1 + 1) o (by (try simp only [World.size_alloc, World.size_setCell, World.size_drew, World.heap_drewN]); omega)
  have HB2 : Below w.heap.size w w2 := vbelow_step (by repeat (first | (with_reducible exact Below.refl _ _) | (with_reducible exact HB1) | (with_reducible refine vbelow_alloc ?_ _) | (with_reducible refine vbelow_drew ?_) | (with_reducible refine vbelow_drewN ?_ _) | (with_reducible refine vbelow_set ?_ (by first | exact Nat.le_refl _ | (dsimp only; omega) | omega)))) hb2
  have hc2_o0 := HB2.cell (p := ⟨g, 0, none⟩) hgl
  clear hc2 hf2 hb2 HB1
  have hz2_0_0 : w.heap.size < w2.heap.size := (by omega)
  have hz2_0_1 : w.heap.size + 1 < w2.heap.size := (by omega)
  have hz2_0_2 : w.heap.size + 1 + 1 < w2.heap.size := (by omega)
  go_wp2
  refine bodyPost_ret (v := .tuple #[.agg #[.int .i64 0, .int .i64 0, .int .i64 0], .int .i64 130]) (by simp [results, Try.results30, go_sem, *]) rfl ⟨rfl, (by repeat (first | (with_reducible exact Below.refl _ _) | (with_reducible exact HB2) | (with_reducible refine vbelow_alloc ?_ _) | (with_reducible refine vbelow_drew ?_) | (with_reducible refine vbelow_drewN ?_ _) | (with_reducible refine vbelow_set ?_ (by first | exact Nat.le_refl _ | (dsimp only; omega) | omega))))⟩

set_option maxHeartbeats 1000000 in
set_option maxRecDepth 100000 in
theorem done30_b2 (a b c p : Int) (w : World) (g : Nat) (hgl : g < w.heap.size) (hg : w.cell? ⟨g, 0, none⟩ = some (.int .i64 p)) (hm : accMay a b c = true) (hp : ((p : Int) != c) = false) (hb : ((b : Int) == 0) = false) (h0 : 0 ≤ b) (h1 : b ≤ 256) :
    Calls Try.prog 30 #[.agg #[.int .i64 a, .int .i64 b, .int .i64 c], .func (.func 32) #[] #[.pointer (some ⟨g, 0, none⟩)]] w fun e w' => e = .returned (.tuple #[.agg #[.int .i64 a, .int .i64 (b - 1), .int .i64 c], .int .i64 0]) ∧ Below w.heap.size w w' := by
  go_enter Try.func30, Try.ntmps30
  go_wp2_with fail
  refine (may34v a b c _ hm).mono ?_
  rintro e w1 ⟨rfl, hb1⟩
  obtain ⟨hc1, hf1⟩ := vbcell hb1
  have hz1 : w.heap.size + 1 + 1 + 1 ≤ w1.heap.size := (by have h_ := hb1.size; (try simp only [World.size_alloc, World.size_setCell, World.size_drew, World.heap_drewN] at h_); omega)
  have hc1_0_0 := fun o => hc1 (w.heap.size) o (by (try simp only [World.size_alloc, World.size_setCell, World.size_drew, World.heap_drewN]); omega)
  have hf1_0_0 := fun o => hf1 (w.heap.size) o (by (try simp only [World.size_alloc, World.size_setCell, World.size_drew, World.heap_drewN]); omega)
  have hc1_0_1 := fun o => hc1 (w.heap.size + 1) o (by (try simp only [World.size_alloc, World.size_setCell, World.size_drew, World.heap_drewN]); omega)
  have hf1_0_1 := fun o => hf1 (w.heap.size + 1) o (by (try simp only [World.size_alloc, World.size_setCell, World.size_drew, World.heap_drewN]); omega)
  have hc1_0_2 := fun o => hc1 (w.heap.size + 1 + 1) o (by (try simp only [World.size_alloc, World.size_setCell, World.size_drew, World.heap_drewN]); omega)
  have hf1_0_2 := fun o => hf1 (w.heap.size + 1 + 1) o (by (try simp only [World.size_alloc, World.size_setCell, World.size_drew, World.heap_drewN]); omega)
  have HB1 : Below w.heap.size w w1 := vbelow_step (by repeat (first | (with_reducible exact Below.refl _ _) | (with_reducible refine vbelow_alloc ?_ _) | (with_reducible refine vbelow_drew ?_) | (with_reducible refine vbelow_drewN ?_ _) | (with_reducible refine vbelow_set ?_ (by first | exact Nat.le_refl _ | (dsimp only; omega) | omega)))) hb1
  have hc1_o0 := HB1.cell (p := ⟨g, 0, none⟩) hgl
  clear hc1 hf1 hb1
  have hz1_0_0 : w.heap.size < w1.heap.size := (by omega)
  have hz1_0_1 : w.heap.size + 1 < w1.heap.size := (by omega)
  have hz1_0_2 : w.heap.size + 1 + 1 < w1.heap.size := (by omega)
  go_wp2_with fail
  refine (back32_2 a b c p _ g (by omega) (by simp [go_sem, *]) hp hb h0 h1).mono ?_
  rintro e w2 ⟨rfl, hb2⟩
  obtain ⟨hc2, hf2⟩ := vbcell hb2
  have hz2 : w1.heap.size ≤ w2.heap.size := (by have h_ := hb2.size; (try simp only [World.size_alloc, World.size_setCell, World.size_drew, World.heap_drewN] at h_); omega)
  have hc2_0_0 := fun o => hc2 (w.heap.size) o (by (try simp only [World.size_alloc, World.size_setCell, World.size_drew, World.heap_drewN]); omega)
  have hf2_0_0 := fun o => hf2 (w.heap.size) o (by (try simp only [World.size_alloc, World.size_setCell, World.size_drew, World.heap_drewN]); omega)
  have hc2_0_1 := fun o => hc2 (w.heap.size + 1) o (by (try simp only [World.size_alloc, World.size_setCell, World.size_drew, World.heap_drewN]); omega)
  have hf2_0_1 := fun o => hf2 (w.heap.size + 1) o (by (try simp only [World.size_alloc, World.size_setCell, World.size_drew, World.heap_drewN]); omega)
  have hc2_0_2 := fun o => hc2 (w.heap.size + 1 + 1) o (by (try simp only [World.size_alloc, World.size_setCell, World.size_drew, World.heap_drewN]); omega)
  have hf2_0_2 := fun o => hf2 (w.heap.size + 1 + 1) o (by (try simp only [World.size_alloc, World.size_setCell, World.size_drew, World.heap_drewN]); omega)
  have HB2 : Below w.heap.size w w2 := vbelow_step (by repeat (first | (with_reducible exact Below.refl _ _) | (with_reducible exact HB1) | (with_reducible refine vbelow_alloc ?_ _) | (with_reducible refine vbelow_drew ?_) | (with_reducible refine vbelow_drewN ?_ _) | (with_reducible refine vbelow_set ?_ (by first | exact Nat.le_refl _ | (dsimp only; omega) | omega)))) hb2
  have hc2_o0 := HB2.cell (p := ⟨g, 0, none⟩) hgl
  clear hc2 hf2 hb2 HB1
  have hz2_0_0 : w.heap.size < w2.heap.size := (by omega)
  have hz2_0_1 : w.heap.size + 1 < w2.heap.size := (by omega)
  have hz2_0_2 : w.heap.size + 1 + 1 < w2.heap.size := (by omega)
  go_wp2
  refine bodyPost_ret (v := .tuple #[.agg #[.int .i64 a, .int .i64 (b - 1), .int .i64 c], .int .i64 0]) (by simp [results, Try.results30, go_sem, *]) rfl ⟨rfl, (by repeat (first | (with_reducible exact Below.refl _ _) | (with_reducible exact HB2) | (with_reducible refine vbelow_alloc ?_ _) | (with_reducible refine vbelow_drew ?_) | (with_reducible refine vbelow_drewN ?_ _) | (with_reducible refine vbelow_set ?_ (by first | exact Nat.le_refl _ | (dsimp only; omega) | omega))))⟩

set_option maxHeartbeats 1000000 in
set_option maxRecDepth 100000 in
theorem back12_bad (a b c p : Int) (w : World) (hm : accMay a b c = false) :
    Calls Try.prog 12 #[.agg #[.int .i64 a, .int .i64 b, .int .i64 c], .int .i64 p] w fun e w' => e = .returned (.tuple #[.agg #[.int .i64 0, .int .i64 0, .int .i64 0], .int .i64 131]) ∧ Below w.heap.size w w' := by
  go_enter Try.func12, Try.ntmps12
  go_wp2_with fail
  refine (done30_bad a b c _ _ hm).mono ?_
  rintro e w1 ⟨rfl, hb1⟩
  obtain ⟨hc1, hf1⟩ := vbcell hb1
  have hz1 : w.heap.size + 1 + 1 + 1 ≤ w1.heap.size := (by have h_ := hb1.size; (try simp only [World.size_alloc, World.size_setCell, World.size_drew, World.heap_drewN] at h_); omega)
  have hc1_0_0 := fun o => hc1 (w.heap.size) o (by (try simp only [World.size_alloc, World.size_setCell, World.size_drew, World.heap_drewN]); omega)
  have hf1_0_0 := fun o => hf1 (w.heap.size) o (by (try simp only [World.size_alloc, World.size_setCell, World.size_drew, World.heap_drewN]); omega)
  have hc1_0_1 := fun o => hc1 (w.heap.size + 1) o (by (try simp only [World.size_alloc, World.size_setCell, World.size_drew, World.heap_drewN]); omega)
  have hf1_0_1 := fun o => hf1 (w.heap.size + 1) o (by (try simp only [World.size_alloc, World.size_setCell, World.size_drew, World.heap_drewN]); omega)
  have hc1_0_2 := fun o => hc1 (w.heap.size + 1 + 1) o (by (try simp only [World.size_alloc, World.size_setCell, World.size_drew, World.heap_drewN]); omega)
  have hf1_0_2 := fun o => hf1 (w.heap.size + 1 + 1) o (by (try simp only [World.size_alloc, World.size_setCell, World.size_drew, World.heap_drewN]); omega)
  have HB1 : Below w.heap.size w w1 := vbelow_step (by repeat (first | (with_reducible exact Below.refl _ _) | (with_reducible refine vbelow_alloc ?_ _) | (with_reducible refine vbelow_drew ?_) | (with_reducible refine vbelow_drewN ?_ _) | (with_reducible refine vbelow_set ?_ (by first | exact Nat.le_refl _ | (dsimp only; omega) | omega)))) hb1
  clear hc1 hf1 hb1
  have hz1_0_0 : w.heap.size < w1.heap.size := (by omega)
  have hz1_0_1 : w.heap.size + 1 < w1.heap.size := (by omega)
  have hz1_0_2 : w.heap.size + 1 + 1 < w1.heap.size := (by omega)
  go_wp2
  refine bodyPost_ret (v := .tuple #[.agg #[.int .i64 0, .int .i64 0, .int .i64 0], .int .i64 131]) (by simp [results, Try.results12, go_sem, *]) rfl ⟨rfl, (by repeat (first | (with_reducible exact Below.refl _ _) | (with_reducible exact HB1) | (with_reducible refine vbelow_alloc ?_ _) | (with_reducible refine vbelow_drew ?_) | (with_reducible refine vbelow_drewN ?_ _) | (with_reducible refine vbelow_set ?_ (by first | exact Nat.le_refl _ | (dsimp only; omega) | omega))))⟩

set_option maxHeartbeats 1000000 in
set_option maxRecDepth 100000 in
theorem back12_0 (a b c p : Int) (w : World) (hm : accMay a b c = true) (hp : ((p : Int) != c) = true) :
    Calls Try.prog 12 #[.agg #[.int .i64 a, .int .i64 b, .int .i64 c], .int .i64 p] w fun e w' => e = .returned (.tuple #[.agg #[.int .i64 a, .int .i64 b, .int .i64 c], .int .i64 0]) ∧ Below w.heap.size w w' := by
  go_enter Try.func12, Try.ntmps12
  go_wp2_with fail
  refine (done30_b0 a b c p _ _ (by simp) (by simp [go_sem]) hm hp).mono ?_
  rintro e w1 ⟨rfl, hb1⟩
  obtain ⟨hc1, hf1⟩ := vbcell hb1
  have hz1 : w.heap.size + 1 + 1 + 1 ≤ w1.heap.size := (by have h_ := hb1.size; (try simp only [World.size_alloc, World.size_setCell, World.size_drew, World.heap_drewN] at h_); omega)
  have hc1_0_0 := fun o => hc1 (w.heap.size) o (by (try simp only [World.size_alloc, World.size_setCell, World.size_drew, World.heap_drewN]); omega)
  have hf1_0_0 := fun o => hf1 (w.heap.size) o (by (try simp only [World.size_alloc, World.size_setCell, World.size_drew, World.heap_drewN]); omega)
  have hc1_0_1 := fun o => hc1 (w.heap.size + 1) o (by (try simp only [World.size_alloc, World.size_setCell, World.size_drew, World.heap_drewN]); omega)
  have hf1_0_1 := fun o => hf1 (w.heap.size + 1) o (by (try simp only [World.size_alloc, World.size_setCell, World.size_drew, World.heap_drewN]); omega)
  have hc1_0_2 := fun o => hc1 (w.heap.size + 1 + 1) o (by (try simp only [World.size_alloc, World.size_setCell, World.size_drew, World.heap_drewN]); omega)
  have hf1_0_2 := fun o => hf1 (w.heap.size + 1 + 1) o (by (try simp only [World.size_alloc, World.size_setCell, World.size_drew, World.heap_drewN]); omega)
  have HB1 : Below w.heap.size w w1 := vbelow_step (by repeat (first | (with_reducible exact Below.refl _ _) | (with_reducible refine vbelow_alloc ?_ _) | (with_reducible refine vbelow_drew ?_) | (with_reducible refine vbelow_drewN ?_ _) | (with_reducible refine vbelow_set ?_ (by first | exact Nat.le_refl _ | (dsimp only; omega) | omega)))) hb1
  clear hc1 hf1 hb1
  have hz1_0_0 : w.heap.size < w1.heap.size := (by omega)
  have hz1_0_1 : w.heap.size + 1 < w1.heap.size := (by omega)
  have hz1_0_2 : w.heap.size + 1 + 1 < w1.heap.size := (by omega)
  go_wp2
  refine bodyPost_ret (v := .tuple #[.agg #[.int .i64 a, .int .i64 b, .int .i64 c], .int .i64 0]) (by simp [results, Try.results12, go_sem, *]) rfl ⟨rfl, (by repeat (first | (with_reducible exact Below.refl _ _) | (with_reducible exact HB1) | (with_reducible refine vbelow_alloc ?_ _) | (with_reducible refine vbelow_drew ?_) | (with_reducible refine vbelow_drewN ?_ _) | (with_reducible refine vbelow_set ?_ (by first | exact Nat.le_refl _ | (dsimp only; omega) | omega))))⟩

set_option maxHeartbeats 1000000 in
set_option maxRecDepth 100000 in
theorem back12_1 (a b c p : Int) (w : World) (hm : accMay a b c = true) (hp : ((p : Int) != c) = false) (hb : ((b : Int) == 0) = true) :
    Calls Try.prog 12 #[.agg #[.int .i64 a, .int .i64 b, .int .i64 c], .int .i64 p] w fun e w' => e = .returned (.tuple #[.agg #[.int .i64 0, .int .i64 0, .int .i64 0], .int .i64 130]) ∧ Below w.heap.size w w' := by
  go_enter Try.func12, Try.ntmps12
  go_wp2_with fail
  refine (done30_b1 a b c p _ _ (by simp) (by simp [go_sem]) hm hp hb).mono ?_
  rintro e w1 ⟨rfl, hb1⟩
  obtain ⟨hc1, hf1⟩ := vbcell hb1
  have hz1 : w.heap.size + 1 + 1 + 1 ≤ w1.heap.size := (by have h_ := hb1.size; (try simp only [World.size_alloc, World.size_setCell, World.size_drew, World.heap_drewN] at h_); omega)
  have hc1_0_0 := fun o => hc1 (w.heap.size) o (by (try simp only [World.size_alloc, World.size_setCell, World.size_drew, World.heap_drewN]); omega)
  have hf1_0_0 := fun o => hf1 (w.heap.size) o (by (try simp only [World.size_alloc, World.size_setCell, World.size_drew, World.heap_drewN]); omega)
  have hc1_0_1 := fun o => hc1 (w.heap.size + 1) o (by (try simp only [World.size_alloc, World.size_setCell, World.size_drew, World.heap_drewN]); omega)
  have hf1_0_1 := fun o => hf1 (w.heap.size + 1) o (by (try simp only [World.size_alloc, World.size_setCell, World.size_drew, World.heap_drewN]); omega)
  have hc1_0_2 := fun o => hc1 (w.heap.size + 1 + 1) o (by (try simp only [World.size_alloc, World.size_setCell, World.size_drew, World.heap_drewN]); omega)
  have hf1_0_2 := fun o => hf1 (w.heap.size + 1 + 1) o (by (try simp only [World.size_alloc, World.size_setCell, World.size_drew, World.heap_drewN]); omega)
  have HB1 : Below w.heap.size w w1 := vbelow_step (by repeat (first | (with_reducible exact Below.refl _ _) | (with_reducible refine vbelow_alloc ?_ _) | (with_reducible refine vbelow_drew ?_) | (with_reducible refine vbelow_drewN ?_ _) | (with_reducible refine vbelow_set ?_ (by first | exact Nat.le_refl _ | (dsimp only; omega) | omega)))) hb1
  clear hc1 hf1 hb1
  have hz1_0_0 : w.heap.size < w1.heap.size := (by omega)
  have hz1_0_1 : w.heap.size + 1 < w1.heap.size := (by omega)
  have hz1_0_2 : w.heap.size + 1 + 1 < w1.heap.size := (by omega)
  go_wp2
  refine bodyPost_ret (v := .tuple #[.agg #[.int .i64 0, .int .i64 0, .int .i64 0], .int .i64 130]) (by simp [results, Try.results12, go_sem, *]) rfl ⟨rfl, (by repeat (first | (with_reducible exact Below.refl _ _) | (with_reducible exact HB1) | (with_reducible refine vbelow_alloc ?_ _) | (with_reducible refine vbelow_drew ?_) | (with_reducible refine vbelow_drewN ?_ _) | (with_reducible refine vbelow_set ?_ (by first | exact Nat.le_refl _ | (dsimp only; omega) | omega))))⟩

set_option maxHeartbeats 1000000 in
set_option maxRecDepth 100000 in
theorem back12_2 (a b c p : Int) (w : World) (hm : accMay a b c = true) (hp : ((p : Int) != c) = false) (hb : ((b : Int) == 0) = false) (h0 : 0 ≤ b) (h1 : b ≤ 256) :
    Calls Try.prog 12 #[.agg #[.int .i64 a, .int .i64 b, .int .i64 c], .int .i64 p] w fun e w' => e = .returned (.tuple #[.agg #[.int .i64 a, .int .i64 (b - 1), .int .i64 c], .int .i64 0]) ∧ Below w.heap.size w w' := by
  go_enter Try.func12, Try.ntmps12
  go_wp2_with fail
  refine (done30_b2 a b c p _ _ (by simp) (by simp [go_sem]) hm hp hb h0 h1).mono ?_
  rintro e w1 ⟨rfl, hb1⟩
  obtain ⟨hc1, hf1⟩ := vbcell hb1
  have hz1 : w.heap.size + 1 + 1 + 1 ≤ w1.heap.size := (by have h_ := hb1.size; (try simp only [World.size_alloc, World.size_setCell, World.size_drew, World.heap_drewN] at h_); omega)
  have hc1_0_0 := fun o => hc1 (w.heap.size) o (by (try simp only [World.size_alloc, World.size_setCell, World.size_drew, World.heap_drewN]); omega)
  have hf1_0_0 := fun o => hf1 (w.heap.size) o (by (try simp only [World.size_alloc, World.size_setCell, World.size_drew, World.heap_drewN]); omega)
  have hc1_0_1 := fun o => hc1 (w.heap.size + 1) o (by (try simp only [World.size_alloc, World.size_setCell, World.size_drew, World.heap_drewN]); omega)
  have hf1_0_1 := fun o => hf1 (w.heap.size + 1) o (by (try simp only [World.size_alloc, World.size_setCell, World.size_drew, World.heap_drewN]); omega)
  have hc1_0_2 := fun o => hc1 (w.heap.size + 1 + 1) o (by (try simp only [World.size_alloc, World.size_setCell, World.size_drew, World.heap_drewN]); omega)
  have hf1_0_2 := fun o => hf1 (w.heap.size + 1 + 1) o (by (try simp only [World.size_alloc, World.size_setCell, World.size_drew, World.heap_drewN]); omega)
  have HB1 : Below w.heap.size w w1 := vbelow_step (by repeat (first | (with_reducible exact Below.refl _ _) | (with_reducible refine vbelow_alloc ?_ _) | (with_reducible refine vbelow_drew ?_) | (with_reducible refine vbelow_drewN ?_ _) | (with_reducible refine vbelow_set ?_ (by first | exact Nat.le_refl _ | (dsimp only; omega) | omega)))) hb1
  clear hc1 hf1 hb1
  have hz1_0_0 : w.heap.size < w1.heap.size := (by omega)
  have hz1_0_1 : w.heap.size + 1 < w1.heap.size := (by omega)
  have hz1_0_2 : w.heap.size + 1 + 1 < w1.heap.size := (by omega)
  go_wp2
  refine bodyPost_ret (v := .tuple #[.agg #[.int .i64 a, .int .i64 (b - 1), .int .i64 c], .int .i64 0]) (by simp [results, Try.results12, go_sem, *]) rfl ⟨rfl, (by repeat (first | (with_reducible exact Below.refl _ _) | (with_reducible exact HB1) | (with_reducible refine vbelow_alloc ?_ _) | (with_reducible refine vbelow_drew ?_) | (with_reducible refine vbelow_drewN ?_ _) | (with_reducible refine vbelow_set ?_ (by first | exact Nat.le_refl _ | (dsimp only; omega) | omega))))⟩

set_option maxHeartbeats 1000000 in
set_option maxRecDepth 100000 in
theorem back13_bad (a b c p : Int) (w : World) (hm : accMay a b c = false) :
    Calls Try.prog 13 #[.agg #[.int .i64 a, .int .i64 b, .int .i64 c], .int .i64 p] w fun e w' => e = .returned (.tuple #[.agg #[.int .i64 0, .int .i64 0, .int .i64 0], .int .i64 131]) ∧ Below w.heap.size w w' := by
  go_enter Try.func13, Try.ntmps13
  go_wp2_with fail
  refine (is17v a b c _ hm).mono ?_
  rintro e w1 ⟨rfl, hb1⟩
  obtain ⟨hc1, hf1⟩ := vbcell hb1
  have hz1 : w.heap.size + 1 + 1 ≤ w1.heap.size := (by have h_ := hb1.size; (try simp only [World.size_alloc, World.size_setCell, World.size_drew, World.heap_drewN] at h_); omega)
  have hc1_0_0 := fun o => hc1 (w.heap.size) o (by (try simp only [World.size_alloc, World.size_setCell, World.size_drew, World.heap_drewN]); omega)
  have hf1_0_0 := fun o => hf1 (w.heap.size) o (by (try simp only [World.size_alloc, World.size_setCell, World.size_drew, World.heap_drewN]); omega)
  have hc1_0_1 := fun o => hc1 (w.heap.size + 1) o (by (try simp only [World.size_alloc, World.size_setCell, World.size_drew, World.heap_drewN]); omega)
  have hf1_0_1 := fun o => hf1 (w.heap.size + 1) o (by (try simp only [World.size_alloc, World.size_setCell, World.size_drew, World.heap_drewN]); omega)
  have HB1 : Below w.heap.size w w1 := vbelow_step (by repeat (first | (with_reducible exact Below.refl _ _) | (with_reducible refine vbelow_alloc ?_ _) | (with_reducible refine vbelow_drew ?_) | (with_reducible refine vbelow_drewN ?_ _) | (with_reducible refine vbelow_set ?_ (by first | exact Nat.le_refl _ | (dsimp only; omega) | omega)))) hb1
  clear hc1 hf1 hb1
  have hz1_0_0 : w.heap.size < w1.heap.size := (by omega)
  have hz1_0_1 : w.heap.size + 1 < w1.heap.size := (by omega)
  go_wp2
  refine bodyPost_ret (v := .tuple #[.agg #[.int .i64 0, .int .i64 0, .int .i64 0], .int .i64 131]) (by simp [results, Try.results13, go_sem, *]) rfl ⟨rfl, (by repeat (first | (with_reducible exact Below.refl _ _) | (with_reducible exact HB1) | (with_reducible refine vbelow_alloc ?_ _) | (with_reducible refine vbelow_drew ?_) | (with_reducible refine vbelow_drewN ?_ _) | (with_reducible refine vbelow_set ?_ (by first | exact Nat.le_refl _ | (dsimp only; omega) | omega))))⟩

set_option maxHeartbeats 1000000 in
set_option maxRecDepth 100000 in
theorem back13_0 (a b c p : Int) (w : World) (hm : accMay a b c = true) (hp : ((p : Int) != c) = true) :
    Calls Try.prog 13 #[.agg #[.int .i64 a, .int .i64 b, .int .i64 c], .int .i64 p] w fun e w' => e = .returned (.tuple #[.agg #[.int .i64 a, .int .i64 b, .int .i64 c], .int .i64 0]) ∧ Below w.heap.size w w' := by
  go_enter Try.func13, Try.ntmps13
  go_wp2_with fail
  refine (is17v a b c _ hm).mono ?_
  rintro e w1 ⟨rfl, hb1⟩
  obtain ⟨hc1, hf1⟩ := vbcell hb1
  have hz1 : w.heap.size + 1 + 1 ≤ w1.heap.size := (by have h_ := hb1.size; (try simp only [World.size_alloc, World.size_setCell, World.size_drew, World.heap_drewN] at h_); omega)
  have hc1_0_0 := fun o => hc1 (w.heap.size) o (by (try simp only [World.size_alloc, World.size_setCell, World.size_drew, World.heap_drewN]); omega)
  have hf1_0_0 := fun o => hf1 (w.heap.size) o (by (try simp only [World.size_alloc, World.size_setCell, World.size_drew, World.heap_drewN]); omega)
  have hc1_0_1 := fun o => hc1 (w.heap.size + 1) o (by (try simp only [World.size_alloc, World.size_setCell, World.size_drew, World.heap_drewN]); omega)
  have hf1_0_1 := fun o => hf1 (w.heap.size + 1) o (by (try simp only [World.size_alloc, World.size_setCell, World.size_drew, World.heap_drewN]); omega)
  have HB1 : Below w.heap.size w w1 := vbelow_step (by repeat (first | (with_reducible exact Below.refl _ _) | (with_reducible refine vbelow_alloc ?_ _) | (with_reducible refine vbelow_drew ?_) | (with_reducible refine vbelow_drewN ?_ _) | (with_reducible refine vbelow_set ?_ (by first | exact Nat.le_refl _ | (dsimp only; omega) | omega)))) hb1
  clear hc1 hf1 hb1
  have hz1_0_0 : w.heap.size < w1.heap.size := (by omega)
  have hz1_0_1 : w.heap.size + 1 < w1.heap.size := (by omega)
  go_wp2
  refine bodyPost_ret (v := .tuple #[.agg #[.int .i64 a, .int .i64 b, .int .i64 c], .int .i64 0]) (by simp [results, Try.results13, go_sem, *]) rfl ⟨rfl, (by repeat (first | (with_reducible exact Below.refl _ _) | (with_reducible exact HB1) | (with_reducible refine vbelow_alloc ?_ _) | (with_reducible refine vbelow_drew ?_) | (with_reducible refine vbelow_drewN ?_ _) | (with_reducible refine vbelow_set ?_ (by first | exact Nat.le_refl _ | (dsimp only; omega) | omega))))⟩

set_option maxHeartbeats 1000000 in
set_option maxRecDepth 100000 in
theorem back13_1 (a b c p : Int) (w : World) (hm : accMay a b c = true) (hp : ((p : Int) != c) = false) (hb : ((b : Int) == 0) = true) :
    Calls Try.prog 13 #[.agg #[.int .i64 a, .int .i64 b, .int .i64 c], .int .i64 p] w fun e w' => e = .returned (.tuple #[.agg #[.int .i64 0, .int .i64 0, .int .i64 0], .int .i64 130]) ∧ Below w.heap.size w w' := by
  go_enter Try.func13, Try.ntmps13
  go_wp2_with fail
  refine (is17v a b c _ hm).mono ?_
  rintro e w1 ⟨rfl, hb1⟩
  obtain ⟨hc1, hf1⟩ := vbcell hb1
  have hz1 : w.heap.size + 1 + 1 ≤ w1.heap.size := (by have h_ := hb1.size; (try simp only [World.size_alloc, World.size_setCell, World.size_drew, World.heap_drewN] at h_); omega)
  have hc1_0_0 := fun o => hc1 (w.heap.size) o (by (try simp only [World.size_alloc, World.size_setCell, World.size_drew, World.heap_drewN]); omega)
  have hf1_0_0 := fun o => hf1 (w.heap.size) o (by (try simp only [World.size_alloc, World.size_setCell, World.size_drew, World.heap_drewN]); omega)
  have hc1_0_1 := fun o => hc1 (w.heap.size + 1) o (by (try simp only [World.size_alloc, World.size_setCell, World.size_drew, World.heap_drewN]); omega)
  have hf1_0_1 := fun o => hf1 (w.heap.size + 1) o (by (try simp only [World.size_alloc, World.size_setCell, World.size_drew, World.heap_drewN]); omega)
  have HB1 : Below w.heap.size w w1 := vbelow_step (by repeat (first | (with_reducible exact Below.refl _ _) | (with_reducible refine vbelow_alloc ?_ _) | (with_reducible refine vbelow_drew ?_) | (with_reducible refine vbelow_drewN ?_ _) | (with_reducible refine vbelow_set ?_ (by first | exact Nat.le_refl _ | (dsimp only; omega) | omega)))) hb1
  clear hc1 hf1 hb1
  have hz1_0_0 : w.heap.size < w1.heap.size := (by omega)
  have hz1_0_1 : w.heap.size + 1 < w1.heap.size := (by omega)
  go_wp2
  refine bodyPost_ret (v := .tuple #[.agg #[.int .i64 0, .int .i64 0, .int .i64 0], .int .i64 130]) (by simp [results, Try.results13, go_sem, *]) rfl ⟨rfl, (by repeat (first | (with_reducible exact Below.refl _ _) | (with_reducible exact HB1) | (with_reducible refine vbelow_alloc ?_ _) | (with_reducible refine vbelow_drew ?_) | (with_reducible refine vbelow_drewN ?_ _) | (with_reducible refine vbelow_set ?_ (by first | exact Nat.le_refl _ | (dsimp only; omega) | omega))))⟩

set_option maxHeartbeats 1000000 in
set_option maxRecDepth 100000 in
theorem back13_2 (a b c p : Int) (w : World) (hm : accMay a b c = true) (hp : ((p : Int) != c) = false) (hb : ((b : Int) == 0) = false) (h0 : 0 ≤ b) (h1 : b ≤ 256) :
    Calls Try.prog 13 #[.agg #[.int .i64 a, .int .i64 b, .int .i64 c], .int .i64 p] w fun e w' => e = .returned (.tuple #[.agg #[.int .i64 a, .int .i64 (b - 1), .int .i64 c], .int .i64 0]) ∧ Below w.heap.size w w' := by
  go_enter Try.func13, Try.ntmps13
  go_wp2_with fail
  refine (is17v a b c _ hm).mono ?_
  rintro e w1 ⟨rfl, hb1⟩
  obtain ⟨hc1, hf1⟩ := vbcell hb1
  have hz1 : w.heap.size + 1 + 1 ≤ w1.heap.size := (by have h_ := hb1.size; (try simp only [World.size_alloc, World.size_setCell, World.size_drew, World.heap_drewN] at h_); omega)
  have hc1_0_0 := fun o => hc1 (w.heap.size) o (by (try simp only [World.size_alloc, World.size_setCell, World.size_drew, World.heap_drewN]); omega)
  have hf1_0_0 := fun o => hf1 (w.heap.size) o (by (try simp only [World.size_alloc, World.size_setCell, World.size_drew, World.heap_drewN]); omega)
  have hc1_0_1 := fun o => hc1 (w.heap.size + 1) o (by (try simp only [World.size_alloc, World.size_setCell, World.size_drew, World.heap_drewN]); omega)
  have hf1_0_1 := fun o => hf1 (w.heap.size + 1) o (by (try simp only [World.size_alloc, World.size_setCell, World.size_drew, World.heap_drewN]); omega)
  have HB1 : Below w.heap.size w w1 := vbelow_step (by repeat (first | (with_reducible exact Below.refl _ _) | (with_reducible refine vbelow_alloc ?_ _) | (with_reducible refine vbelow_drew ?_) | (with_reducible refine vbelow_drewN ?_ _) | (with_reducible refine vbelow_set ?_ (by first | exact Nat.le_refl _ | (dsimp only; omega) | omega)))) hb1
  clear hc1 hf1 hb1
  have hz1_0_0 : w.heap.size < w1.heap.size := (by omega)
  have hz1_0_1 : w.heap.size + 1 < w1.heap.size := (by omega)
  go_wp2
  refine bodyPost_ret (v := .tuple #[.agg #[.int .i64 a, .int .i64 (b - 1), .int .i64 c], .int .i64 0]) (by simp [results, Try.results13, go_sem, *]) rfl ⟨rfl, (by repeat (first | (with_reducible exact Below.refl _ _) | (with_reducible exact HB1) | (with_reducible refine vbelow_alloc ?_ _) | (with_reducible refine vbelow_drew ?_) | (with_reducible refine vbelow_drewN ?_ _) | (with_reducible refine vbelow_set ?_ (by first | exact Nat.le_refl _ | (dsimp only; omega) | omega))))⟩

end Go.Proofs.Ytfjljlhlifnnlaa.Q
