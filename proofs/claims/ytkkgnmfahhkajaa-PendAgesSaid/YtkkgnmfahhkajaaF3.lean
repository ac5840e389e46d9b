/- Layer 18: which pending operations may be. -/
import Derived.Test.YtkkgnmfahhkajaaV
import Derived.Test.YtkkgnmfahhkajaaQx4
namespace Go.Proofs.Ytkkgnmfahhkajaa.Q
open Go.RowKit Go.Proofs.YtkkgnmfahhkajaaW.PrintWords Go.Proofs.YtkkgnmfahhkajaaW.PrintMore
set_option linter.unusedVariables false
set_option linter.unusedSimpArgs false
theorem run_store_func {P : Program} {w : World} {a : Addr} {m : Mode} (f : Fn) (xs ys : Array Value) : (store a (.func f xs ys) m).run P w = stored P w a (.func f xs ys) m := run_store P w a _ m rfl
attribute [local go_sem] run_store_func
set_option maxHeartbeats 1000000 in
set_option maxRecDepth 100000 in
theorem within34 (w : World) (x lo hi : Int) : Calls Try.prog 34 #[.int .i64 x, .int .i64 lo, .int .i64 hi] w fun e w' => e = .returned (.bool (decide (lo ≤ x) && decide (x ≤ hi))) ∧ Below w.heap.size w w' := by
  by_cases h1 : lo ≤ x
  · have d1 : decide (lo ≤ x) = true := decide_eq_true h1
    by_cases h2 : x ≤ hi
    · have d2 : decide (x ≤ hi) = true := decide_eq_true h2
      rw [d1, d2]
      go_enter Try.func34, Try.ntmps34
      go_wp2
      go_ret
      exact ⟨rfl, (by repeat (first | (with_reducible exact Below.refl _ _) | (with_reducible refine vbelow_alloc ?_ _) | (with_reducible refine vbelow_drew ?_) | (with_reducible refine vbelow_drewN ?_ _) | (with_reducible refine vbelow_set ?_ (by first | exact Nat.le_refl _ | (dsimp only; omega) | omega))))⟩
    · have d2 : decide (x ≤ hi) = false := decide_eq_false h2
      rw [d1, d2]
      go_enter Try.func34, Try.ntmps34
      go_wp2
      go_ret
      exact ⟨rfl, (by repeat (first | (with_reducible exact Below.refl _ _) | (with_reducible refine vbelow_alloc ?_ _) | (with_reducible refine vbelow_drew ?_) | (with_reducible refine vbelow_drewN ?_ _) | (with_reducible refine vbelow_set ?_ (by first | exact Nat.le_refl _ | (dsimp only; omega) | omega))))⟩
  · have d1 : decide (lo ≤ x) = false := decide_eq_false h1
    rw [d1]
    go_enter Try.func34, Try.ntmps34
    go_wp2
    go_ret
    exact ⟨rfl, (by repeat (first | (with_reducible exact Below.refl _ _) | (with_reducible refine vbelow_alloc ?_ _) | (with_reducible refine vbelow_drew ?_) | (with_reducible refine vbelow_drewN ?_ _) | (with_reducible refine vbelow_set ?_ (by first | exact Nat.le_refl _ | (dsimp only; omega) | omega))))⟩
set_option maxHeartbeats 1000000 in
set_option maxRecDepth 100000 in
theorem rule33 (w : World) (a b : Int) (A : Option Addr) (n c : Nat) : Calls Try.prog 33 #[.agg #[.int .i64 a, .int .i64 b, .slice A n c]] w fun e w' => e = .returned (.bool (decide (1 ≤ a) && decide (a ≤ 4))) ∧ Below w.heap.size w w' := by
  go_enter Try.func33, Try.ntmps33
  go_wp2_with fail
  refine (within34 _ a 1 4).mono ?_
  rintro e w1 ⟨rfl, hb1⟩
  have HB1 : Below w.heap.size w w1 := vbelow_step (by repeat (first | (with_reducible exact Below.refl _ _) | (with_reducible refine vbelow_alloc ?_ _) | (with_reducible refine vbelow_drew ?_) | (with_reducible refine vbelow_drewN ?_ _) | (with_reducible refine vbelow_set ?_ (by first | exact Nat.le_refl _ | (dsimp only; omega) | omega)))) hb1
  go_wp2
  go_ret
  exact ⟨rfl, HB1⟩
set_option maxHeartbeats 1000000 in
set_option maxRecDepth 100000 in
theorem rule35 (w : World) (a b : Int) (A : Option Addr) (n c : Nat) : Calls Try.prog 35 #[.agg #[.int .i64 a, .int .i64 b, .slice A n c]] w fun e w' => e = .returned (.bool (decide (1 ≤ b) && decide (b ≤ 1099511627776))) ∧ Below w.heap.size w w' := by
  go_enter Try.func35, Try.ntmps35
  go_wp2_with fail
  refine (within34 _ b 1 1099511627776).mono ?_
  rintro e w1 ⟨rfl, hb1⟩
  have HB1 : Below w.heap.size w w1 := vbelow_step (by repeat (first | (with_reducible exact Below.refl _ _) | (with_reducible refine vbelow_alloc ?_ _) | (with_reducible refine vbelow_drew ?_) | (with_reducible refine vbelow_drewN ?_ _) | (with_reducible refine vbelow_set ?_ (by first | exact Nat.le_refl _ | (dsimp only; omega) | omega)))) hb1
  go_wp2
  go_ret
  exact ⟨rfl, HB1⟩
set_option maxHeartbeats 1000000 in
set_option maxRecDepth 100000 in
theorem rule36 (w : World) (a b : Int) (A : Option Addr) (n c : Nat) : Calls Try.prog 36 #[.agg #[.int .i64 a, .int .i64 b, .slice A n c]] w fun e w' => e = .returned (.bool (decide ((n : Int) ≤ a))) ∧ Below w.heap.size w w' := by
  by_cases h1 : (n : Int) ≤ a
  · have d1 : decide ((n : Int) ≤ a) = true := decide_eq_true h1
    rw [d1]
    go_enter Try.func36, Try.ntmps36
    go_wp2
    go_ret
    exact ⟨rfl, (by repeat (first | (with_reducible exact Below.refl _ _) | (with_reducible refine vbelow_alloc ?_ _) | (with_reducible refine vbelow_drew ?_) | (with_reducible refine vbelow_drewN ?_ _) | (with_reducible refine vbelow_set ?_ (by first | exact Nat.le_refl _ | (dsimp only; omega) | omega))))⟩
  · have d1 : decide ((n : Int) ≤ a) = false := decide_eq_false h1
    rw [d1]
    go_enter Try.func36, Try.ntmps36
    go_wp2
    go_ret
    exact ⟨rfl, (by repeat (first | (with_reducible exact Below.refl _ _) | (with_reducible refine vbelow_alloc ?_ _) | (with_reducible refine vbelow_drew ?_) | (with_reducible refine vbelow_drewN ?_ _) | (with_reducible refine vbelow_set ?_ (by first | exact Nat.le_refl _ | (dsimp only; omega) | omega))))⟩
def pend_Check.f (k : Nat) (a0_0 : Int) (a0_1 : Int) (l0_2 : List S42) : Option Int :=
  if 1 ≤ a0_0 ∧ a0_0 ≤ 4 then (if 1 ≤ a0_1 ∧ a0_1 ≤ 1099511627776 then (if (l0_2.length : Int) ≤ a0_0 then ((pend_numbered.f k a0_0 a0_1 l0_2).bind fun t => (if t = true then (some 0) else (some 180))) else (some 180)) else (some 180)) else (some 180)
set_option maxHeartbeats 1000000 in
set_option maxRecDepth 100000 in
theorem pend_Check.calls (k9 : Nat) (a : Int) (b : Int) (A : Option Addr) (c : Nat) (l : List S42) (r : Int) (w : World) (hr : Kd.C k42 w A l.length l) (hc : l.length ≤ c) (h : pend_Check.f k9 a b l = some r) : Calls Try.prog 23 #[.agg #[.int .i64 a, .int .i64 b, .slice A l.length c]] w fun e w' => e = .returned (.int .i64 r) ∧ Below w.heap.size w w' := by
  have z1 : (w.alloc (.cells #[.int .i64 a, .int .i64 b, .slice A l.length c] 24)).heap.size = w.heap.size + 1 := by rw [World.size_alloc]
  have A0 : ((w.alloc (.cells #[.int .i64 a, .int .i64 b, .slice A l.length c] 24)).alloc (.cells #[.func (.func 33) #[] #[], .func (.func 35) #[] #[], .func (.func 36) #[] #[], .func (.func 37) #[] #[]] 66)).cell? ⟨w.heap.size, 0, none⟩ = some (.int .i64 a) := vcell_alloc (vcell_new rfl) _
  have A1 : ((w.alloc (.cells #[.int .i64 a, .int .i64 b, .slice A l.length c] 24)).alloc (.cells #[.func (.func 33) #[] #[], .func (.func 35) #[] #[], .func (.func 36) #[] #[], .func (.func 37) #[] #[]] 66)).cell? ⟨w.heap.size, 1, none⟩ = some (.int .i64 b) := vcell_alloc (vcell_new rfl) _
  have A2 : ((w.alloc (.cells #[.int .i64 a, .int .i64 b, .slice A l.length c] 24)).alloc (.cells #[.func (.func 33) #[] #[], .func (.func 35) #[] #[], .func (.func 36) #[] #[], .func (.func 37) #[] #[]] 66)).cell? ⟨w.heap.size, 2, none⟩ = some (.slice A l.length c) := vcell_alloc (vcell_new rfl) _
  have A3 : ((w.alloc (.cells #[.int .i64 a, .int .i64 b, .slice A l.length c] 24)).alloc (.cells #[.func (.func 33) #[] #[], .func (.func 35) #[] #[], .func (.func 36) #[] #[], .func (.func 37) #[] #[]] 66)).cell? ⟨w.heap.size + 1, 0, none⟩ = some (.func (.func 33) #[] #[]) := vcell_new' z1.symm rfl
  have A4 : ((w.alloc (.cells #[.int .i64 a, .int .i64 b, .slice A l.length c] 24)).alloc (.cells #[.func (.func 33) #[] #[], .func (.func 35) #[] #[], .func (.func 36) #[] #[], .func (.func 37) #[] #[]] 66)).cell? ⟨w.heap.size + 1, 1, none⟩ = some (.func (.func 35) #[] #[]) := vcell_new' z1.symm rfl
  have A5 : ((w.alloc (.cells #[.int .i64 a, .int .i64 b, .slice A l.length c] 24)).alloc (.cells #[.func (.func 33) #[] #[], .func (.func 35) #[] #[], .func (.func 36) #[] #[], .func (.func 37) #[] #[]] 66)).cell? ⟨w.heap.size + 1, 2, none⟩ = some (.func (.func 36) #[] #[]) := vcell_new' z1.symm rfl
  have A6 : ((w.alloc (.cells #[.int .i64 a, .int .i64 b, .slice A l.length c] 24)).alloc (.cells #[.func (.func 33) #[] #[], .func (.func 35) #[] #[], .func (.func 36) #[] #[], .func (.func 37) #[] #[]] 66)).cell? ⟨w.heap.size + 1, 3, none⟩ = some (.func (.func 37) #[] #[]) := vcell_new' z1.symm rfl
  have AB : Below w.heap.size w ((w.alloc (.cells #[.int .i64 a, .int .i64 b, .slice A l.length c] 24)).alloc (.cells #[.func (.func 33) #[] #[], .func (.func 35) #[] #[], .func (.func 36) #[] #[], .func (.func 37) #[] #[]] 66)) := vbelow_alloc (vbelow_alloc (Below.refl _ _) _) _
  clear z1
  have HF := Lib.hid h
  clear h
  go_enter Try.func23, Try.ntmps23
  go_wp2
  go_loopw [13] (fun v13 wr => ∃ k : Nat, k ≤ 4 ∧ v13 = .int .i64 k ∧ wr.cell? ⟨w.heap.size, 0, none⟩ = some (.int .i64 a) ∧ wr.cell? ⟨w.heap.size, 1, none⟩ = some (.int .i64 b) ∧ wr.cell? ⟨w.heap.size, 2, none⟩ = some (.slice A l.length c) ∧ wr.cell? ⟨w.heap.size + 1, 0, none⟩ = some (.func (.func 33) #[] #[]) ∧ wr.cell? ⟨w.heap.size + 1, 1, none⟩ = some (.func (.func 35) #[] #[]) ∧ wr.cell? ⟨w.heap.size + 1, 2, none⟩ = some (.func (.func 36) #[] #[]) ∧ wr.cell? ⟨w.heap.size + 1, 3, none⟩ = some (.func (.func 37) #[] #[]) ∧ Below w.heap.size w wr ∧ Aside0 ((1 ≤ k → 1 ≤ a ∧ a ≤ 4) ∧ (2 ≤ k → 1 ≤ b ∧ b ≤ 1099511627776) ∧ (3 ≤ k → (l.length : Int) ≤ a) ∧ (4 ≤ k → r = 0))) (fun v13 _ => 5 - (intOf v13).toNat)
  case atStart => exact ⟨0, Nat.zero_le _, rfl, A0, A1, A2, A3, A4, A5, A6, AB, ⟨⟨fun h => by omega, fun h => by omega, fun h => by omega, fun h => by omega⟩⟩⟩
  case round =>
    clear A0 A1 A2 A3 A4 A5 A6 AB
    obtain ⟨k, hk, rfl, Q0, Q1, Q2, R0, R1, R2, R3, HW, HP⟩ := hrel
    have hR := Kd.C_below hr HW
    rcases (show k = 0 ∨ k = 1 ∨ k = 2 ∨ k = 3 ∨ k = 4 by omega) with rfl | rfl | rfl | rfl | rfl
    · have hzz : w.heap.size < wr.heap.size := World.block_lt_of_cell? _ _ Q0
      have hzz1 : w.heap.size + 1 < wr.heap.size := World.block_lt_of_cell? _ _ R0
      by_cases hc_ : 1 ≤ a ∧ a ≤ 4
      · have hv : (decide (1 ≤ a) && decide (a ≤ 4)) = true := by rw [decide_eq_true hc_.1, decide_eq_true hc_.2]; rfl
        go_wp2_with fail
        refine (rule33 _ a b A l.length c).mono ?_
        rw [hv]
        rintro e w1 ⟨rfl, hb1⟩
        have HB1 : Below w.heap.size w w1 := vbelow_step (vbelow_alloc HW _) hb1
        have Q0 := vcell hb1 (vcell_alloc Q0 (.cells #[.func (.func 33) #[] #[]] 66))
        have Q1 := vcell hb1 (vcell_alloc Q1 (.cells #[.func (.func 33) #[] #[]] 66))
        have Q2 := vcell hb1 (vcell_alloc Q2 (.cells #[.func (.func 33) #[] #[]] 66))
        have R0 := vcell hb1 (vcell_alloc R0 (.cells #[.func (.func 33) #[] #[]] 66))
        have R1 := vcell hb1 (vcell_alloc R1 (.cells #[.func (.func 33) #[] #[]] 66))
        have R2 := vcell hb1 (vcell_alloc R2 (.cells #[.func (.func 33) #[] #[]] 66))
        have R3 := vcell hb1 (vcell_alloc R3 (.cells #[.func (.func 33) #[] #[]] 66))
        go_wp2
        go_roundw
        case rel => exact ⟨1, by omega, by go_num, Q0, Q1, Q2, R0, R1, R2, R3, HB1, ⟨⟨fun _ => hc_, fun h => by omega, fun h => by omega, fun h => by omega⟩⟩⟩
        case measure => first | (simp [intOf]; done) | (simp [intOf]; omega)
      · have hr180 : r = 180 := by have h_ := HF.out; unfold pend_Check.f at h_; rw [if_neg hc_] at h_; exact (Option.some.inj h_).symm
        have hv : (decide (1 ≤ a) && decide (a ≤ 4)) = false := by rw [Bool.and_eq_false_iff]; by_cases h_ : 1 ≤ a; exact .inr (decide_eq_false (fun e => hc_ ⟨h_, e⟩)); exact .inl (decide_eq_false h_)
        go_wp2_with fail
        refine (rule33 _ a b A l.length c).mono ?_
        rw [hv]
        rintro e w1 ⟨rfl, hb1⟩
        have HB1 : Below w.heap.size w w1 := vbelow_step (vbelow_alloc HW _) hb1
        go_wp2
        go_ret
        exact ⟨by rw [hr180]; rfl, HB1⟩
    · have hzz : w.heap.size < wr.heap.size := World.block_lt_of_cell? _ _ Q0
      have hzz1 : w.heap.size + 1 < wr.heap.size := World.block_lt_of_cell? _ _ R0
      by_cases hc_ : 1 ≤ b ∧ b ≤ 1099511627776
      · have hv : (decide (1 ≤ b) && decide (b ≤ 1099511627776)) = true := by rw [decide_eq_true hc_.1, decide_eq_true hc_.2]; rfl
        go_wp2_with fail
        refine (rule35 _ a b A l.length c).mono ?_
        rw [hv]
        rintro e w1 ⟨rfl, hb1⟩
        have HB1 : Below w.heap.size w w1 := vbelow_step (vbelow_alloc HW _) hb1
        have Q0 := vcell hb1 (vcell_alloc Q0 (.cells #[.func (.func 35) #[] #[]] 66))
        have Q1 := vcell hb1 (vcell_alloc Q1 (.cells #[.func (.func 35) #[] #[]] 66))
        have Q2 := vcell hb1 (vcell_alloc Q2 (.cells #[.func (.func 35) #[] #[]] 66))
        have R0 := vcell hb1 (vcell_alloc R0 (.cells #[.func (.func 35) #[] #[]] 66))
        have R1 := vcell hb1 (vcell_alloc R1 (.cells #[.func (.func 35) #[] #[]] 66))
        have R2 := vcell hb1 (vcell_alloc R2 (.cells #[.func (.func 35) #[] #[]] 66))
        have R3 := vcell hb1 (vcell_alloc R3 (.cells #[.func (.func 35) #[] #[]] 66))
        go_wp2
        go_roundw
        case rel => exact ⟨2, by omega, by go_num, Q0, Q1, Q2, R0, R1, R2, R3, HB1, ⟨⟨fun _ => HP.out.1 (by omega), fun _ => hc_, fun h => by omega, fun h => by omega⟩⟩⟩
        case measure => first | (simp [intOf]; done) | (simp [intOf]; omega)
      · have hr180 : r = 180 := by have h_ := HF.out; unfold pend_Check.f at h_; rw [if_pos (HP.out.1 (by omega)), if_neg hc_] at h_; exact (Option.some.inj h_).symm
        have hv : (decide (1 ≤ b) && decide (b ≤ 1099511627776)) = false := by rw [Bool.and_eq_false_iff]; by_cases h_ : 1 ≤ b; exact .inr (decide_eq_false (fun e => hc_ ⟨h_, e⟩)); exact .inl (decide_eq_false h_)
        go_wp2_with fail
        refine (rule35 _ a b A l.length c).mono ?_
        rw [hv]
        rintro e w1 ⟨rfl, hb1⟩
        have HB1 : Below w.heap.size w w1 := vbelow_step (vbelow_alloc HW _) hb1
        go_wp2
        go_ret
        exact ⟨by rw [hr180]; rfl, HB1⟩
    · have hzz : w.heap.size < wr.heap.size := World.block_lt_of_cell? _ _ Q0
      have hzz1 : w.heap.size + 1 < wr.heap.size := World.block_lt_of_cell? _ _ R0
      by_cases hc_ : (l.length : Int) ≤ a
      · have hv : decide ((l.length : Int) ≤ a) = true := decide_eq_true hc_
        go_wp2_with fail
        refine (rule36 _ a b A l.length c).mono ?_
        rw [hv]
        rintro e w1 ⟨rfl, hb1⟩
        have HB1 : Below w.heap.size w w1 := vbelow_step (vbelow_alloc HW _) hb1
        have Q0 := vcell hb1 (vcell_alloc Q0 (.cells #[.func (.func 36) #[] #[]] 66))
        have Q1 := vcell hb1 (vcell_alloc Q1 (.cells #[.func (.func 36) #[] #[]] 66))
        have Q2 := vcell hb1 (vcell_alloc Q2 (.cells #[.func (.func 36) #[] #[]] 66))
        have R0 := vcell hb1 (vcell_alloc R0 (.cells #[.func (.func 36) #[] #[]] 66))
        have R1 := vcell hb1 (vcell_alloc R1 (.cells #[.func (.func 36) #[] #[]] 66))
        have R2 := vcell hb1 (vcell_alloc R2 (.cells #[.func (.func 36) #[] #[]] 66))
        have R3 := vcell hb1 (vcell_alloc R3 (.cells #[.func (.func 36) #[] #[]] 66))
        go_wp2
        go_roundw
        case rel => exact ⟨3, by omega, by go_num, Q0, Q1, Q2, R0, R1, R2, R3, HB1, ⟨⟨fun _ => HP.out.1 (by omega), fun _ => HP.out.2.1 (by omega), fun _ => hc_, fun h => by omega⟩⟩⟩
        case measure => first | (simp [intOf]; done) | (simp [intOf]; omega)
      · have hr180 : r = 180 := by have h_ := HF.out; unfold pend_Check.f at h_; rw [if_pos (HP.out.1 (by omega)), if_pos (HP.out.2.1 (by omega)), if_neg hc_] at h_; exact (Option.some.inj h_).symm
        have hv : decide ((l.length : Int) ≤ a) = false := decide_eq_false hc_
        go_wp2_with fail
        refine (rule36 _ a b A l.length c).mono ?_
        rw [hv]
        rintro e w1 ⟨rfl, hb1⟩
        have HB1 : Below w.heap.size w w1 := vbelow_step (vbelow_alloc HW _) hb1
        go_wp2
        go_ret
        exact ⟨by rw [hr180]; rfl, HB1⟩
    · have hzz : w.heap.size < wr.heap.size := World.block_lt_of_cell? _ _ Q0
      have hzz1 : w.heap.size + 1 < wr.heap.size := World.block_lt_of_cell? _ _ R0
      obtain ⟨t, ht, htr⟩ : ∃ t, pend_numbered.f k9 a b l = some t ∧ r = (if t = true then 0 else 180) := by
        have h_ := HF.out
        unfold pend_Check.f at h_
        rw [if_pos (HP.out.1 (by omega)), if_pos (HP.out.2.1 (by omega)), if_pos (HP.out.2.2.1 (by omega))] at h_
        obtain ⟨t, h1, h2⟩ := Option.bind_eq_some_iff.1 h_
        refine ⟨t, h1, ?_⟩
        by_cases h3 : t = true
        · rw [if_pos h3] at h2 ⊢; exact (Option.some.inj h2).symm
        · rw [if_neg h3] at h2 ⊢; exact (Option.some.inj h2).symm
      by_cases hc_ : t = true
      · have hv : t = true := hc_
        go_wp2_with fail
        refine (pend_numbered.calls k9 a b A c l t _ (Kd.C_below hR ((Below.refl _ _).alloc (Nat.le_refl _) _)) hc ht).mono ?_
        rw [hv]
        rintro e w1 ⟨rfl, hb1⟩
        have HB1 : Below w.heap.size w w1 := vbelow_step (vbelow_alloc HW _) hb1
        have Q0 := vcell hb1 (vcell_alloc Q0 (.cells #[.func (.func 37) #[] #[]] 66))
        have Q1 := vcell hb1 (vcell_alloc Q1 (.cells #[.func (.func 37) #[] #[]] 66))
        have Q2 := vcell hb1 (vcell_alloc Q2 (.cells #[.func (.func 37) #[] #[]] 66))
        have R0 := vcell hb1 (vcell_alloc R0 (.cells #[.func (.func 37) #[] #[]] 66))
        have R1 := vcell hb1 (vcell_alloc R1 (.cells #[.func (.func 37) #[] #[]] 66))
        have R2 := vcell hb1 (vcell_alloc R2 (.cells #[.func (.func 37) #[] #[]] 66))
        have R3 := vcell hb1 (vcell_alloc R3 (.cells #[.func (.func 37) #[] #[]] 66))
        go_wp2
        go_roundw
        case rel => exact ⟨4, by omega, by go_num, Q0, Q1, Q2, R0, R1, R2, R3, HB1, ⟨⟨fun _ => HP.out.1 (by omega), fun _ => HP.out.2.1 (by omega), fun _ => HP.out.2.2.1 (by omega), fun _ => by rw [htr, if_pos hc_]⟩⟩⟩
        case measure => first | (simp [intOf]; done) | (simp [intOf]; omega)
      · have hr180 : r = 180 := by rw [htr, if_neg hc_]
        have hv : t = false := Bool.eq_false_iff.2 hc_
        go_wp2_with fail
        refine (pend_numbered.calls k9 a b A c l t _ (Kd.C_below hR ((Below.refl _ _).alloc (Nat.le_refl _) _)) hc ht).mono ?_
        rw [hv]
        rintro e w1 ⟨rfl, hb1⟩
        have HB1 : Below w.heap.size w w1 := vbelow_step (vbelow_alloc HW _) hb1
        go_wp2
        go_ret
        exact ⟨by rw [hr180]; rfl, HB1⟩
    · have hr0 : r = 0 := HP.out.2.2.2 (by omega)
      go_wp2
      go_ret
      exact ⟨by rw [hr0]; rfl, HW⟩
end Go.Proofs.Ytkkgnmfahhkajaa.Q
