/- Layer 3: a reply's bytes, by the program, for every reply; the walk of the law WireReplies. -/
import Derived.Test.YtbbnaagfnpeloaaDoorE6
import Derived.Test.YtbbnaagfnpeloaaDoorP3
namespace Go.Proofs.YtbbnaagfnpeloaaDoor.Q
open Go.RowKit Go.Proofs.YtbbnaagfnpeloaaDoorW.PrintWords Go.Proofs.YtbbnaagfnpeloaaDoorW.PrintMore
set_option linter.unusedVariables false
set_option linter.unusedSimpArgs false

set_option maxHeartbeats 1000000 in
set_option maxRecDepth 100000 in
theorem reply23 (cd a h p : Int) (h0 : 0 ≤ h) (h1 : h < 4294967296) (w : World) (hP : PartsHeld w) :
    Calls Tryd.prog 23 #[.agg #[.int .u8 cd, .int .u8 a, .int .u32 h, .int .u64 p]] w fun e w' => ∃ v, e = .returned (.tuple #[v, .int .i64 (if isRep cd a h p = true then 0 else 30)]) ∧ OwnBytes w w' v (if isRep cd a h p = true then bytes16 cd a 0 h p else []) ∧ Below w.heap.size w w' := by
  have hc := may_eq cd a h p
  cases hq : isRep cd a h p with
  | true =>
    rw [hq] at hc
    rw [if_pos rfl, if_pos rfl]
    have HC := Lib.hid hc
    clear hc hq
    go_enter Tryd.func23, Tryd.ntmps23
    go_wp2_with fail
    refine (wire_may.calls cd a h p true _ HC.out).mono ?_
    rintro e w1 ⟨rfl, hb1⟩
    have hP1 := (hP.below (vbelow_alloc (Below.refl _ _) _)).below hb1
    obtain ⟨hc1, hf1⟩ := vbcell hb1
    have hc1_0 := fun o => hc1 w.heap.size o (by simp only [World.size_alloc]; omega)
    have hz1 : w.heap.size + 1 ≤ w1.heap.size := (by have h_ := hb1.size; simp only [World.size_alloc] at h_; omega)
    have HB1 : Below w.heap.size w w1 := vbelow_step (vbelow_alloc (Below.refl _ _) _) hb1
    have HP1 := Lib.hid hP1
    clear hc1 hf1 hb1 hP hP1
    go_wp2_with fail
    refine (laid30 cd a 0 h p h0 h1 _ HP1.out).mono ?_
    rintro e w2 ⟨v, rfl, hR2, hb2⟩
    have HR2 := Lib.hid hR2
    clear hR2
    go_wp2
    go_ret2
    exact ⟨v, rfl, Kd.R_lower HR2.out HB1.size, vbelow_step HB1 hb2⟩
  | false =>
    rw [hq] at hc
    rw [if_neg (by decide), if_neg (by decide)]
    have HC := Lib.hid hc
    clear hc hq hP
    go_enter Tryd.func23, Tryd.ntmps23
    go_wp2_with fail
    refine (wire_may.calls cd a h p false _ HC.out).mono ?_
    rintro e w1 ⟨rfl, hb1⟩
    go_wp2
    go_ret2
    exact ⟨_, rfl, Kd.R_nil _ _ _ _ _, vbelow_step (vbelow_alloc (Below.refl _ _) _) hb1⟩


set_option maxHeartbeats 1000000 in
set_option maxRecDepth 100000 in
theorem replies6_yes (cd a h p : Int) (h0 : 0 ≤ h) (h1 : h < 4294967296) (p0 : 0 ≤ p) (p1 : p < 18446744073709551616) (w : World) (hP : PartsHeld w) (hq : isRep cd a h p = true) : Calls Tryd.prog 6 #[.agg #[.int .u8 cd, .int .u8 a, .int .u32 h, .int .u64 p]] w fun e w' => e = .returned (.bool true) ∧ Below w.heap.size w w' := by
  have hB := refReplyBytes_eq cd a h p h0 h1 p0 p1
  have hA := reply23 cd a h p h0 h1
  rw [hq] at hB hA
  rw [if_pos rfl, if_pos rfl] at hB
  simp only [if_true] at hA
  generalize bytes16 cd a 0 h p = xs at hA hB
  have HA := Lib.hid hA
  have HBr := Lib.hid hB
  have HP := Lib.hid hP
  clear hA hB hq hP h0 h1 p0 p1
  go_enter Tryd.func6, Tryd.ntmps6
  go_wp2_with fail
  refine (HA.out _ (HP.out.below (vbelow_alloc (Below.refl _ _) _))).mono ?_
  rintro e w1 ⟨v1, rfl, hR1, hb1⟩
  obtain ⟨A1, c1, rfl⟩ := Kd.R_slice hR1
  have HR1 : Hid ((Kd.int .u8).C w1 A1 xs.length xs) := (Kd.R_reads' hR1).2.2
  clear hR1
  obtain ⟨hc1, hf1⟩ := vbcell hb1
  have hz1 : w.heap.size + 1 ≤ w1.heap.size := (by have h_ := hb1.size; (try simp only [World.size_alloc, World.size_setCell, World.size_drew, World.heap_drewN] at h_); omega)
  have hc1_0_0 := fun o => hc1 (w.heap.size) o (by (try simp only [World.size_alloc, World.size_setCell, World.size_drew, World.heap_drewN]); omega)
  have hf1_0_0 := fun o => hf1 (w.heap.size) o (by (try simp only [World.size_alloc, World.size_setCell, World.size_drew, World.heap_drewN]); omega)
  have HB1 : Below w.heap.size w w1 := vbelow_step (by repeat (first | (with_reducible exact Below.refl _ _) | (with_reducible refine vbelow_alloc ?_ _) | (with_reducible refine vbelow_drew ?_) | (with_reducible refine vbelow_drewN ?_ _) | (with_reducible refine vbelow_set ?_ (by first | exact Nat.le_refl _ | (dsimp only; omega) | omega)))) hb1
  clear hc1 hf1 hb1
  have hz1_0_0 : w.heap.size < w1.heap.size := (by omega)
  go_wp2_with fail
  refine (rampartref03_ReplyBytes.calls 9 cd a h p xs 0 _ HBr.out).mono ?_
  rintro e w2 ⟨v2, rfl, hR2, hb2⟩
  obtain ⟨A2, c2, rfl⟩ := Kd.R_slice hR2
  have cv1 : (convert 27 9 (.slice A1 xs.length c1)).run Tryd.prog w2 = .ok (.string (strOfNums xs)) w2 := Kd.C_string Tryd.underlying27 Tryd.underlying5 Tryd.underlying9 (Kd.C_below HR1.out hb2)
  have cv2 : (convert 27 9 (.slice A2 xs.length c2)).run Tryd.prog w2 = .ok (.string (strOfNums xs)) w2 := Kd.C_string Tryd.underlying27 Tryd.underlying5 Tryd.underlying9 (Kd.R_reads' hR2).2.2
  clear hR2 HR1
  obtain ⟨hc2, hf2⟩ := vbcell hb2
  have hz2 : w1.heap.size ≤ w2.heap.size := (by have h_ := hb2.size; (try simp only [World.size_alloc, World.size_setCell, World.size_drew, World.heap_drewN] at h_); omega)
  have hc2_0_0 := fun o => hc2 (w.heap.size) o (by (try simp only [World.size_alloc, World.size_setCell, World.size_drew, World.heap_drewN]); omega)
  have hf2_0_0 := fun o => hf2 (w.heap.size) o (by (try simp only [World.size_alloc, World.size_setCell, World.size_drew, World.heap_drewN]); omega)
  have HB2 : Below w.heap.size w w2 := vbelow_step (by repeat (first | (with_reducible exact Below.refl _ _) | (with_reducible exact HB1) | (with_reducible refine vbelow_alloc ?_ _) | (with_reducible refine vbelow_drew ?_) | (with_reducible refine vbelow_drewN ?_ _) | (with_reducible refine vbelow_set ?_ (by first | exact Nat.le_refl _ | (dsimp only; omega) | omega)))) hb2
  clear hc2 hf2 hb2 HB1
  have hz2_0_0 : w.heap.size < w2.heap.size := (by omega)
  go_wp2_with fail
  refine (alive14 _ (HP.out.below HB2)).mono ?_
  rintro e w3 ⟨rfl, hb3⟩
  obtain ⟨hc3, hf3⟩ := vbcell hb3
  have hz3 : w2.heap.size ≤ w3.heap.size := (by have h_ := hb3.size; (try simp only [World.size_alloc, World.size_setCell, World.size_drew, World.heap_drewN] at h_); omega)
  have hc3_0_0 := fun o => hc3 (w.heap.size) o (by (try simp only [World.size_alloc, World.size_setCell, World.size_drew, World.heap_drewN]); omega)
  have hf3_0_0 := fun o => hf3 (w.heap.size) o (by (try simp only [World.size_alloc, World.size_setCell, World.size_drew, World.heap_drewN]); omega)
  have HB3 : Below w.heap.size w w3 := vbelow_step (by repeat (first | (with_reducible exact Below.refl _ _) | (with_reducible exact HB2) | (with_reducible refine vbelow_alloc ?_ _) | (with_reducible refine vbelow_drew ?_) | (with_reducible refine vbelow_drewN ?_ _) | (with_reducible refine vbelow_set ?_ (by first | exact Nat.le_refl _ | (dsimp only; omega) | omega)))) hb3
  clear hc3 hf3 hb3 HB2
  have hz3_0_0 : w.heap.size < w3.heap.size := (by omega)
  go_wp2
  go_ret
  exact ⟨rfl, (by repeat (first | (with_reducible exact Below.refl _ _) | (with_reducible exact HB3) | (with_reducible refine vbelow_alloc ?_ _) | (with_reducible refine vbelow_drew ?_) | (with_reducible refine vbelow_drewN ?_ _) | (with_reducible refine vbelow_set ?_ (by first | exact Nat.le_refl _ | (dsimp only; omega) | omega))))⟩

set_option maxHeartbeats 1000000 in
set_option maxRecDepth 100000 in
theorem replies6_no (cd a h p : Int) (h0 : 0 ≤ h) (h1 : h < 4294967296) (p0 : 0 ≤ p) (p1 : p < 18446744073709551616) (w : World) (hP : PartsHeld w) (hq : isRep cd a h p = false) : Calls Tryd.prog 6 #[.agg #[.int .u8 cd, .int .u8 a, .int .u32 h, .int .u64 p]] w fun e w' => e = .returned (.bool true) ∧ Below w.heap.size w w' := by
  have hB := refReplyBytes_eq cd a h p h0 h1 p0 p1
  have hA := reply23 cd a h p h0 h1
  rw [hq] at hB hA
  rw [if_neg (by decide), if_neg (by decide)] at hB
  simp only [Bool.false_eq_true, if_false] at hA
  generalize ([] : List Int) = xs at hA hB
  have HA := Lib.hid hA
  have HBr := Lib.hid hB
  have HP := Lib.hid hP
  clear hA hB hq hP h0 h1 p0 p1
  go_enter Tryd.func6, Tryd.ntmps6
  go_wp2_with fail
  refine (HA.out _ (HP.out.below (vbelow_alloc (Below.refl _ _) _))).mono ?_
  rintro e w1 ⟨v1, rfl, hR1, hb1⟩
  obtain ⟨A1, c1, rfl⟩ := Kd.R_slice hR1
  have HR1 : Hid ((Kd.int .u8).C w1 A1 xs.length xs) := (Kd.R_reads' hR1).2.2
  clear hR1
  obtain ⟨hc1, hf1⟩ := vbcell hb1
  have hz1 : w.heap.size + 1 ≤ w1.heap.size := (by have h_ := hb1.size; (try simp only [World.size_alloc, World.size_setCell, World.size_drew, World.heap_drewN] at h_); omega)
  have hc1_0_0 := fun o => hc1 (w.heap.size) o (by (try simp only [World.size_alloc, World.size_setCell, World.size_drew, World.heap_drewN]); omega)
  have hf1_0_0 := fun o => hf1 (w.heap.size) o (by (try simp only [World.size_alloc, World.size_setCell, World.size_drew, World.heap_drewN]); omega)
  have HB1 : Below w.heap.size w w1 := vbelow_step (by repeat (first | (with_reducible exact Below.refl _ _) | (with_reducible refine vbelow_alloc ?_ _) | (with_reducible refine vbelow_drew ?_) | (with_reducible refine vbelow_drewN ?_ _) | (with_reducible refine vbelow_set ?_ (by first | exact Nat.le_refl _ | (dsimp only; omega) | omega)))) hb1
  clear hc1 hf1 hb1
  have hz1_0_0 : w.heap.size < w1.heap.size := (by omega)
  go_wp2_with fail
  refine (rampartref03_ReplyBytes.calls 9 cd a h p xs 30 _ HBr.out).mono ?_
  rintro e w2 ⟨v2, rfl, hR2, hb2⟩
  obtain ⟨A2, c2, rfl⟩ := Kd.R_slice hR2
  have cv1 : (convert 27 9 (.slice A1 xs.length c1)).run Tryd.prog w2 = .ok (.string (strOfNums xs)) w2 := Kd.C_string Tryd.underlying27 Tryd.underlying5 Tryd.underlying9 (Kd.C_below HR1.out hb2)
  have cv2 : (convert 27 9 (.slice A2 xs.length c2)).run Tryd.prog w2 = .ok (.string (strOfNums xs)) w2 := Kd.C_string Tryd.underlying27 Tryd.underlying5 Tryd.underlying9 (Kd.R_reads' hR2).2.2
  clear hR2 HR1
  obtain ⟨hc2, hf2⟩ := vbcell hb2
  have hz2 : w1.heap.size ≤ w2.heap.size := (by have h_ := hb2.size; (try simp only [World.size_alloc, World.size_setCell, World.size_drew, World.heap_drewN] at h_); omega)
  have hc2_0_0 := fun o => hc2 (w.heap.size) o (by (try simp only [World.size_alloc, World.size_setCell, World.size_drew, World.heap_drewN]); omega)
  have hf2_0_0 := fun o => hf2 (w.heap.size) o (by (try simp only [World.size_alloc, World.size_setCell, World.size_drew, World.heap_drewN]); omega)
  have HB2 : Below w.heap.size w w2 := vbelow_step (by repeat (first | (with_reducible exact Below.refl _ _) | (with_reducible exact HB1) | (with_reducible refine vbelow_alloc ?_ _) | (with_reducible refine vbelow_drew ?_) | (with_reducible refine vbelow_drewN ?_ _) | (with_reducible refine vbelow_set ?_ (by first | exact Nat.le_refl _ | (dsimp only; omega) | omega)))) hb2
  clear hc2 hf2 hb2 HB1
  have hz2_0_0 : w.heap.size < w2.heap.size := (by omega)
  go_wp2_with fail
  refine (alive14 _ (HP.out.below HB2)).mono ?_
  rintro e w3 ⟨rfl, hb3⟩
  obtain ⟨hc3, hf3⟩ := vbcell hb3
  have hz3 : w2.heap.size ≤ w3.heap.size := (by have h_ := hb3.size; (try simp only [World.size_alloc, World.size_setCell, World.size_drew, World.heap_drewN] at h_); omega)
  have hc3_0_0 := fun o => hc3 (w.heap.size) o (by (try simp only [World.size_alloc, World.size_setCell, World.size_drew, World.heap_drewN]); omega)
  have hf3_0_0 := fun o => hf3 (w.heap.size) o (by (try simp only [World.size_alloc, World.size_setCell, World.size_drew, World.heap_drewN]); omega)
  have HB3 : Below w.heap.size w w3 := vbelow_step (by repeat (first | (with_reducible exact Below.refl _ _) | (with_reducible exact HB2) | (with_reducible refine vbelow_alloc ?_ _) | (with_reducible refine vbelow_drew ?_) | (with_reducible refine vbelow_drewN ?_ _) | (with_reducible refine vbelow_set ?_ (by first | exact Nat.le_refl _ | (dsimp only; omega) | omega)))) hb3
  clear hc3 hf3 hb3 HB2
  have hz3_0_0 : w.heap.size < w3.heap.size := (by omega)
  go_wp2
  go_ret
  exact ⟨rfl, (by repeat (first | (with_reducible exact Below.refl _ _) | (with_reducible exact HB3) | (with_reducible refine vbelow_alloc ?_ _) | (with_reducible refine vbelow_drew ?_) | (with_reducible refine vbelow_drewN ?_ _) | (with_reducible refine vbelow_set ?_ (by first | exact Nat.le_refl _ | (dsimp only; omega) | omega))))⟩

theorem replies6 (cd a h p : Int) (h0 : 0 ≤ h) (h1 : h < 4294967296) (p0 : 0 ≤ p) (p1 : p < 18446744073709551616) (w : World) (hP : PartsHeld w) : Calls Tryd.prog 6 #[.agg #[.int .u8 cd, .int .u8 a, .int .u32 h, .int .u64 p]] w fun e w' => e = .returned (.bool true) ∧ Below w.heap.size w w' := by
  cases hq : isRep cd a h p with
  | true => exact replies6_yes cd a h p h0 h1 p0 p1 w hP hq
  | false => exact replies6_no cd a h p h0 h1 p0 p1 w hP hq
end Go.Proofs.YtbbnaagfnpeloaaDoor.Q
