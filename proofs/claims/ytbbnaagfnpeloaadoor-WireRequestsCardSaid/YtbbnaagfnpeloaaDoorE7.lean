/- Layer 3: the walk of the law WireRequests. -/
import Derived.Test.YtbbnaagfnpeloaaDoorE6
namespace Go.Proofs.YtbbnaagfnpeloaaDoor.Q
open Go.RowKit Go.Proofs.YtbbnaagfnpeloaaDoorW.PrintWords Go.Proofs.YtbbnaagfnpeloaaDoorW.PrintMore
set_option linter.unusedVariables false
set_option linter.unusedSimpArgs false

set_option maxHeartbeats 1000000 in
set_option maxRecDepth 100000 in
theorem requests3_yes (kd a rt h p : Int) (h0 : 0 ≤ h) (h1 : h < 4294967296) (p0 : 0 ≤ p) (p1 : p < 18446744073709551616) (w : World) (hP : PartsHeld w) (hq : isReq kd a rt h p = true) : Calls Tryd.prog 3 #[.agg #[.int .u8 kd, .int .u8 a, .int .u8 rt, .int .u32 h, .int .u64 p]] w fun e w' => e = .returned (.bool true) ∧ Below w.heap.size w w' := by
  have hB := refBytes_eq kd a rt h p h0 h1 p0 p1
  have hK := check_eq kd a rt h p
  have hI := is_eq kd a rt h p
  have hA := bytes10 kd a rt h p h0 h1
  rw [hq] at hB hK hI hA
  rw [if_pos rfl, if_pos rfl] at hB
  rw [if_pos rfl] at hK
  simp only [if_true] at hA
  generalize bytes16 kd a rt h p = xs at hA hB
  have HA := Lib.hid hA
  have HBr := Lib.hid hB
  have HK := Lib.hid hK
  have HI := Lib.hid hI
  have HP := Lib.hid hP
  clear hA hB hK hI hq hP h0 h1 p0 p1
  go_enter Tryd.func3, Tryd.ntmps3
  go_wp2_with fail
  refine (HA.out _ (HP.out.below (vbelow_alloc (Below.refl _ _) _))).mono ?_
  rintro e w1 ⟨v1, rfl, hR1, hb1⟩
  obtain ⟨A1, c1, rfl⟩ := Kd.R_slice hR1
  have HR1 : Hid ((Kd.int .u8).C w1 A1 xs.length xs) := (Kd.R_reads' hR1).2.2
  clear hR1
  obtain ⟨hc1, hf1⟩ := vbcell hb1
  have hz1 : w.heap.size + 1 ≤ w1.heap.size := (by have h_ := hb1.size; (try simp only [World.size_alloc, World.size_setCell, World.size_drew, World.heap_drewN] at h_); omega)
  have hc1_0_0 := fun o => hc1 (w.heap.size) o (by (try simp only [World.size_alloc, World.size_setCell, World.size_drew, World.heap_drewN]); omega)
  have hf1_0_0 := fun o => hf1 (w.heap.size) o (by (try simp only [World.size_alloc, World.size_setCell, World.size_drew, World.heap_drewN]); omega)
  have HB1 : Below w.heap.size w w1 := vbelow_step (by repeat (first | (with_reducible exact Below.refl _ _) | (with_reducible refine vbelow_alloc ?_ _) | (with_reducible refine vbelow_drew ?_) | (with_reducible refine vbelow_drewN ?_ _) | (with_reducible refine vbelow_set ?_ (by first | exact Nat.le_refl _ | (dsimp only; omega) | omega)))) hb1
  clear hc1 hf1 hb1
  have hz1_0_0 : w.heap.size < w1.heap.size := (by omega)
  go_wp2_with fail
  refine (rampartref03_Bytes.calls 9 kd a rt h p xs 0 _ HBr.out).mono ?_
  rintro e w2 ⟨v2, rfl, hR2, hb2⟩
  obtain ⟨A2, c2, rfl⟩ := Kd.R_slice hR2
  have HC1 : Hid ((Kd.int .u8).C w2 A1 xs.length xs) := Kd.C_below HR1.out hb2
  have HC2 : Hid ((Kd.int .u8).C w2 A2 xs.length xs) := (Kd.R_reads' hR2).2.2
  clear hR2 HR1
  obtain ⟨hc2, hf2⟩ := vbcell hb2
  have hz2 : w1.heap.size ≤ w2.heap.size := (by have h_ := hb2.size; (try simp only [World.size_alloc, World.size_setCell, World.size_drew, World.heap_drewN] at h_); omega)
  have hc2_0_0 := fun o => hc2 (w.heap.size) o (by (try simp only [World.size_alloc, World.size_setCell, World.size_drew, World.heap_drewN]); omega)
  have hf2_0_0 := fun o => hf2 (w.heap.size) o (by (try simp only [World.size_alloc, World.size_setCell, World.size_drew, World.heap_drewN]); omega)
  have HB2 : Below w.heap.size w w2 := vbelow_step (by repeat (first | (with_reducible exact Below.refl _ _) | (with_reducible exact HB1) | (with_reducible refine vbelow_alloc ?_ _) | (with_reducible refine vbelow_drew ?_) | (with_reducible refine vbelow_drewN ?_ _) | (with_reducible refine vbelow_set ?_ (by first | exact Nat.le_refl _ | (dsimp only; omega) | omega)))) hb2
  clear hc2 hf2 hb2 HB1
  have hz2_0_0 : w.heap.size < w2.heap.size := (by omega)
  go_wp2
  have Q0 : (w2).cell? ⟨w.heap.size, 0, none⟩ = some (.int .u8 kd) := (by simp [go_sem, *])
  have Q1 : (w2).cell? ⟨w.heap.size, 1, none⟩ = some (.int .u8 a) := (by simp [go_sem, *])
  have Q2 : (w2).cell? ⟨w.heap.size, 2, none⟩ = some (.int .u8 rt) := (by simp [go_sem, *])
  have Q3 : (w2).cell? ⟨w.heap.size, 3, none⟩ = some (.int .u32 h) := (by simp [go_sem, *])
  have Q4 : (w2).cell? ⟨w.heap.size, 4, none⟩ = some (.int .u64 p) := (by simp [go_sem, *])
  have HBq : Below w.heap.size w (w2) := (by repeat (first | (with_reducible exact Below.refl _ _) | (with_reducible exact HB2) | (with_reducible refine vbelow_alloc ?_ _) | (with_reducible refine vbelow_drew ?_) | (with_reducible refine vbelow_drewN ?_ _) | (with_reducible refine vbelow_set ?_ (by first | exact Nat.le_refl _ | (dsimp only; omega) | omega))))
  have HBq0 := Lib.hid HBq
  have cv1 : ∀ u : GW w2, (convert 27 9 (.slice A1 xs.length c1)).run Tryd.prog u.val = .ok (.string (strOfNums xs)) u.val := fun u => Kd.C_string Tryd.underlying27 Tryd.underlying5 Tryd.underlying9 (Kd.C_below HC1.out u.property)
  have cv2 : ∀ u : GW w2, (convert 27 9 (.slice A2 xs.length c2)).run Tryd.prog u.val = .ok (.string (strOfNums xs)) u.val := fun u => Kd.C_string Tryd.underlying27 Tryd.underlying5 Tryd.underlying9 (Kd.C_below HC2.out u.property)
  obtain ⟨W0, hW0⟩ : ∃ W0, W0 = w2 := ⟨_, rfl⟩
  rw [← hW0] at cv1 cv2 HBq0 HBq Q0 Q1 Q2 Q3 Q4 ⊢
  clear hW0
  have q0 := gw_cell Q0
  have q1 := gw_cell Q1
  have q2 := gw_cell Q2
  have q3 := gw_cell Q3
  have q4 := gw_cell Q4
  refine wp_region_quietB (by kernel_rfl) (by kernel_rfl) ?_
  repeat (first | go_big_quiet_step ((first | (go_at_call 12; exact quietB_of (wire_Check.calls kd a rt h p 0 _ HK.out)) | (go_at_call 13; exact quietB_of (rampartref03_Is.calls 3 kd a rt h p true _ HI.out)) | (go_at_call 14; exact quietB_of (alive14 _ (HP.out.below (vbelow_next (GW.property _) HBq0.out)))))) | quiet_step ((first | (go_at_call 12; exact quietB_of (wire_Check.calls kd a rt h p 0 _ HK.out)) | (go_at_call 13; exact quietB_of (rampartref03_Is.calls 3 kd a rt h p true _ HI.out)) | (go_at_call 14; exact quietB_of (alive14 _ (HP.out.below (vbelow_next (GW.property _) HBq0.out)))))))
  refine wpQuiet_nil ?_
  rintro w9 ⟨⟨wq_, hb9⟩, hwq_⟩
  obtain rfl : w9 = wq_ := hwq_
  have HB9 : Below w.heap.size w w9 := vbelow_next hb9 HBq
  go_wp2
  go_ret
  exact ⟨rfl, HB9⟩

set_option maxHeartbeats 1000000 in
set_option maxRecDepth 100000 in
theorem requests3_no (kd a rt h p : Int) (h0 : 0 ≤ h) (h1 : h < 4294967296) (p0 : 0 ≤ p) (p1 : p < 18446744073709551616) (w : World) (hP : PartsHeld w) (hq : isReq kd a rt h p = false) : Calls Tryd.prog 3 #[.agg #[.int .u8 kd, .int .u8 a, .int .u8 rt, .int .u32 h, .int .u64 p]] w fun e w' => e = .returned (.bool true) ∧ Below w.heap.size w w' := by
  have hB := refBytes_eq kd a rt h p h0 h1 p0 p1
  have hK := check_eq kd a rt h p
  have hI := is_eq kd a rt h p
  have hA := bytes10 kd a rt h p h0 h1
  rw [hq] at hB hK hI hA
  rw [if_neg (by decide), if_neg (by decide)] at hB
  rw [if_neg (by decide)] at hK
  simp only [Bool.false_eq_true, if_false] at hA
  generalize ([] : List Int) = xs at hA hB
  have HA := Lib.hid hA
  have HBr := Lib.hid hB
  have HK := Lib.hid hK
  have HI := Lib.hid hI
  have HP := Lib.hid hP
  clear hA hB hK hI hq hP h0 h1 p0 p1
  go_enter Tryd.func3, Tryd.ntmps3
  go_wp2_with fail
  refine (HA.out _ (HP.out.below (vbelow_alloc (Below.refl _ _) _))).mono ?_
  rintro e w1 ⟨v1, rfl, hR1, hb1⟩
  obtain ⟨A1, c1, rfl⟩ := Kd.R_slice hR1
  have HR1 : Hid ((Kd.int .u8).C w1 A1 xs.length xs) := (Kd.R_reads' hR1).2.2
  clear hR1
  obtain ⟨hc1, hf1⟩ := vbcell hb1
  have hz1 : w.heap.size + 1 ≤ w1.heap.size := (by have h_ := hb1.size; (try simp only [World.size_alloc, World.size_setCell, World.size_drew, World.heap_drewN] at h_); omega)
  have hc1_0_0 := fun o => hc1 (w.heap.size) o (by (try simp only [World.size_alloc, World.size_setCell, World.size_drew, World.heap_drewN]); omega)
  have hf1_0_0 := fun o => hf1 (w.heap.size) o (by (try simp only [World.size_alloc, World.size_setCell, World.size_drew, World.heap_drewN]); omega)
  have HB1 : Below w.heap.size w w1 := vbelow_step (by repeat (first | (with_reducible exact Below.refl _ _) | (with_reducible refine vbelow_alloc ?_ _) | (with_reducible refine vbelow_drew ?_) | (with_reducible refine vbelow_drewN ?_ _) | (with_reducible refine vbelow_set ?_ (by first | exact Nat.le_refl _ | (dsimp only; omega) | omega)))) hb1
  clear hc1 hf1 hb1
  have hz1_0_0 : w.heap.size < w1.heap.size := (by omega)
  go_wp2_with fail
  refine (rampartref03_Bytes.calls 9 kd a rt h p xs 30 _ HBr.out).mono ?_
  rintro e w2 ⟨v2, rfl, hR2, hb2⟩
  obtain ⟨A2, c2, rfl⟩ := Kd.R_slice hR2
  have HC1 : Hid ((Kd.int .u8).C w2 A1 xs.length xs) := Kd.C_below HR1.out hb2
  have HC2 : Hid ((Kd.int .u8).C w2 A2 xs.length xs) := (Kd.R_reads' hR2).2.2
  clear hR2 HR1
  obtain ⟨hc2, hf2⟩ := vbcell hb2
  have hz2 : w1.heap.size ≤ w2.heap.size := (by have h_ := hb2.size; (try simp only [World.size_alloc, World.size_setCell, World.size_drew, World.heap_drewN] at h_); omega)
  have hc2_0_0 := fun o => hc2 (w.heap.size) o (by (try simp only [World.size_alloc, World.size_setCell, World.size_drew, World.heap_drewN]); omega)
  have hf2_0_0 := fun o => hf2 (w.heap.size) o (by (try simp only [World.size_alloc, World.size_setCell, World.size_drew, World.heap_drewN]); omega)
  have HB2 : Below w.heap.size w w2 := vbelow_step (by repeat (first | (with_reducible exact Below.refl _ _) | (with_reducible exact HB1) | (with_reducible refine vbelow_alloc ?_ _) | (with_reducible refine vbelow_drew ?_) | (with_reducible refine vbelow_drewN ?_ _) | (with_reducible refine vbelow_set ?_ (by first | exact Nat.le_refl _ | (dsimp only; omega) | omega)))) hb2
  clear hc2 hf2 hb2 HB1
  have hz2_0_0 : w.heap.size < w2.heap.size := (by omega)
  go_wp2
  have Q0 : (w2).cell? ⟨w.heap.size, 0, none⟩ = some (.int .u8 kd) := (by simp [go_sem, *])
  have Q1 : (w2).cell? ⟨w.heap.size, 1, none⟩ = some (.int .u8 a) := (by simp [go_sem, *])
  have Q2 : (w2).cell? ⟨w.heap.size, 2, none⟩ = some (.int .u8 rt) := (by simp [go_sem, *])
  have Q3 : (w2).cell? ⟨w.heap.size, 3, none⟩ = some (.int .u32 h) := (by simp [go_sem, *])
  have Q4 : (w2).cell? ⟨w.heap.size, 4, none⟩ = some (.int .u64 p) := (by simp [go_sem, *])
  have HBq : Below w.heap.size w (w2) := (by repeat (first | (with_reducible exact Below.refl _ _) | (with_reducible exact HB2) | (with_reducible refine vbelow_alloc ?_ _) | (with_reducible refine vbelow_drew ?_) | (with_reducible refine vbelow_drewN ?_ _) | (with_reducible refine vbelow_set ?_ (by first | exact Nat.le_refl _ | (dsimp only; omega) | omega))))
  have HBq0 := Lib.hid HBq
  have cv1 : ∀ u : GW w2, (convert 27 9 (.slice A1 xs.length c1)).run Tryd.prog u.val = .ok (.string (strOfNums xs)) u.val := fun u => Kd.C_string Tryd.underlying27 Tryd.underlying5 Tryd.underlying9 (Kd.C_below HC1.out u.property)
  have cv2 : ∀ u : GW w2, (convert 27 9 (.slice A2 xs.length c2)).run Tryd.prog u.val = .ok (.string (strOfNums xs)) u.val := fun u => Kd.C_string Tryd.underlying27 Tryd.underlying5 Tryd.underlying9 (Kd.C_below HC2.out u.property)
  obtain ⟨W0, hW0⟩ : ∃ W0, W0 = w2 := ⟨_, rfl⟩
  rw [← hW0] at cv1 cv2 HBq0 HBq Q0 Q1 Q2 Q3 Q4 ⊢
  clear hW0
  have q0 := gw_cell Q0
  have q1 := gw_cell Q1
  have q2 := gw_cell Q2
  have q3 := gw_cell Q3
  have q4 := gw_cell Q4
  refine wp_region_quietB (by kernel_rfl) (by kernel_rfl) ?_
  repeat (first | go_big_quiet_step ((first | (go_at_call 12; exact quietB_of (wire_Check.calls kd a rt h p 30 _ HK.out)) | (go_at_call 13; exact quietB_of (rampartref03_Is.calls 3 kd a rt h p false _ HI.out)) | (go_at_call 14; exact quietB_of (alive14 _ (HP.out.below (vbelow_next (GW.property _) HBq0.out)))))) | quiet_step ((first | (go_at_call 12; exact quietB_of (wire_Check.calls kd a rt h p 30 _ HK.out)) | (go_at_call 13; exact quietB_of (rampartref03_Is.calls 3 kd a rt h p false _ HI.out)) | (go_at_call 14; exact quietB_of (alive14 _ (HP.out.below (vbelow_next (GW.property _) HBq0.out)))))))
  refine wpQuiet_nil ?_
  rintro w9 ⟨⟨wq_, hb9⟩, hwq_⟩
  obtain rfl : w9 = wq_ := hwq_
  have HB9 : Below w.heap.size w w9 := vbelow_next hb9 HBq
  go_wp2
  go_ret
  exact ⟨rfl, HB9⟩

theorem requests3 (kd a rt h p : Int) (h0 : 0 ≤ h) (h1 : h < 4294967296) (p0 : 0 ≤ p) (p1 : p < 18446744073709551616) (w : World) (hP : PartsHeld w) : Calls Tryd.prog 3 #[.agg #[.int .u8 kd, .int .u8 a, .int .u8 rt, .int .u32 h, .int .u64 p]] w fun e w' => e = .returned (.bool true) ∧ Below w.heap.size w w' := by
  cases hq : isReq kd a rt h p with
  | true => exact requests3_yes kd a rt h p h0 h1 p0 p1 w hP hq
  | false => exact requests3_no kd a rt h p h0 h1 p0 p1 w hP hq
end Go.Proofs.YtbbnaagfnpeloaaDoor.Q
