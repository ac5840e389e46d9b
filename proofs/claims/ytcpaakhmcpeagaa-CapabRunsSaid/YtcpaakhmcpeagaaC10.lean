/- Layer 11: the example of the statements. -/
import Derived.Test.YtcpaakhmcpeagaaC9
namespace Go.Proofs.Ytcpaakhmcpeagaa.Q
open Go.RowKit Go.Proofs.YtcpaakhmcpeagaaW.PrintWords Go.Proofs.YtcpaakhmcpeagaaW.PrintMore
set_option linter.unusedVariables false
set_option linter.unusedSimpArgs false
def aP1 : Nat → Pl := upd freshP 0 ⟨1, true, 3, 1⟩
def aP2 : Nat → Pl := upd aP1 0 ⟨2, false, 0, 0⟩
def aP3 : Nat → Pl := upd aP2 0 ⟨2, true, 3, 1⟩
theorem aE1 : mintF freshP 2 3 1 = (65792, 0, aP1) := by rfl
theorem aE2 : dropF aP1 2 65792 = (0, aP2) := by rfl
theorem aE3 : mintF aP2 2 3 1 = (131328, 0, aP3) := by rfl
theorem aE4 : findF aP3 2 65792 = (0, 0, false) := by rfl
theorem aE5 : findF aP3 2 131328 = (3, 1, true) := by rfl
theorem aO1 : Ok aP1 := by have h := mintF_ok freshP_ok 2 3 1 (by decide) (by decide); rw [aE1] at h; exact h
theorem aO2 : Ok aP2 := by have h := dropF_ok aO1 2 65792; rw [aE2] at h; exact h
theorem aO3 : Ok aP3 := by have h := mintF_ok aO2 2 3 1 (by decide) (by decide); rw [aE3] at h; exact h
set_option maxHeartbeats 1000000 in
set_option maxRecDepth 100000 in
theorem alive10 (w : World) : Calls Try.prog 10 #[] w fun e w' => e = .returned (.bool true) ∧ Below w.heap.size w w' := by
  go_enter Try.func10, Try.ntmps10
  go_wp2_with fail
  refine (new9' _ 2 (by decide)).mono ?_
  rintro e w1 ⟨rfl, T1, hb1⟩
  have hz1 : w.heap.size < w1.heap.size := T1.lt
  go_wp2_with fail
  refine (mint11 _ w.heap.size freshP 2 (by decide) freshP_ok (T1.alloc _) 3 1 (by decide) (by decide)).mono ?_
  rw [aE1]
  rintro e w2 ⟨rfl, T2, O2⟩
  have hne : w1.heap.size ≠ w.heap.size := Nat.ne_of_gt hz1
  have K0 : w2.cell? ⟨w1.heap.size, 0, none⟩ = some (.int .i64 3) := O2.cell (vcell_new rfl) hne
  have K1 : w2.cell? ⟨w1.heap.size, 1, none⟩ = some (.int .u8 1) := O2.cell (vcell_new rfl) hne
  have hz2 : w1.heap.size < w2.heap.size := Nat.lt_of_lt_of_le (by rw [World.size_alloc]; omega) O2.size
  have HB2 : Below w.heap.size w w2 := Below.only (vbelow_alloc hb1 _) (Nat.le_refl _) O2
  clear O2
  go_wp2_with fail
  refine (drop12 _ w.heap.size aP1 2 (by decide) aO1 T2 65792 (by decide) (by decide)).mono ?_
  rw [aE2]
  rintro e w3 ⟨rfl, T3, O3⟩
  have K0 := O3.cell K0 hne
  have K1 := O3.cell K1 hne
  have hz3 : w1.heap.size < w3.heap.size := Nat.lt_of_lt_of_le hz2 O3.size
  have HB3 : Below w.heap.size w w3 := Below.only HB2 (Nat.le_refl _) O3
  clear O3 HB2
  go_wp2_with fail
  refine (mint11 _ w.heap.size aP2 2 (by decide) aO2 T3 3 1 (by decide) (by decide)).mono ?_
  rw [aE3]
  rintro e w4 ⟨rfl, T4, O4⟩
  have K0 := O4.cell K0 hne
  have K1 := O4.cell K1 hne
  have hz4 : w1.heap.size < w4.heap.size := Nat.lt_of_lt_of_le hz3 O4.size
  have HB4 : Below w.heap.size w w4 := Below.only HB3 (Nat.le_refl _) O4
  clear O4 HB3
  go_wp2_with fail
  refine (find13' _ w.heap.size aP3 2 (by decide) aO3 T4 65792 (by decide) (by decide)).mono ?_
  rw [aE4]
  rintro e w5 ⟨rfl, T5, hb5⟩
  have K0 := vcell hb5 K0
  have K1 := vcell hb5 K1
  have hz5 : w1.heap.size < w5.heap.size := Nat.lt_of_lt_of_le hz4 hb5.size
  have HB5 : Below w.heap.size w w5 := vbelow_step HB4 hb5
  clear hb5 HB4
  go_wp2_with fail
  refine (find13' _ w.heap.size aP3 2 (by decide) aO3 (T5.alloc _) 131328 (by decide) (by decide)).mono ?_
  rw [aE5]
  rintro e w6 ⟨rfl, T6, hb6⟩
  have K0 := vcell hb6 (vcell_alloc K0 _)
  have K1 := vcell hb6 (vcell_alloc K1 _)
  have hz6 : w1.heap.size < w6.heap.size := Nat.lt_of_lt_of_le (by rw [World.size_alloc]; omega) hb6.size
  have HB6 : Below w.heap.size w w6 := vbelow_step (vbelow_alloc HB5 _) hb6
  clear hb6 HB5
  go_wp2
  go_ret
  exact ⟨rfl, (by repeat (first | (with_reducible exact Below.refl _ _) | (with_reducible exact HB6) | (with_reducible refine vbelow_alloc ?_ _) | (with_reducible refine vbelow_drew ?_) | (with_reducible refine vbelow_drewN ?_ _) | (with_reducible refine vbelow_set ?_ (by first | exact Nat.le_refl _ | (dsimp only; omega) | omega))))⟩
end Go.Proofs.Ytcpaakhmcpeagaa.Q
