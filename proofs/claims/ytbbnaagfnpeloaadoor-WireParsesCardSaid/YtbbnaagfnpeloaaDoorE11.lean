/- Layer 3: there and back; the walk of the law WireBack. -/
import Derived.Test.YtbbnaagfnpeloaaDoorE8
import Derived.Test.YtbbnaagfnpeloaaDoorE9
import Derived.Test.YtbbnaagfnpeloaaDoorE10
namespace Go.Proofs.YtbbnaagfnpeloaaDoor.Q
open Go.RowKit Go.Proofs.YtbbnaagfnpeloaaDoorW.PrintWords Go.Proofs.YtbbnaagfnpeloaaDoorW.PrintMore
set_option linter.unusedVariables false
set_option linter.unusedSimpArgs false

theorem num4_le4 (h : Int) (h0 : 0 ≤ h) (h1 : h < 4294967296) : num4 (h % 256) (h / 256 % 256) (h / 65536 % 256) (h / 16777216 % 256) = h := by unfold num4; omega
theorem num8_le8 (p : Int) (h0 : 0 ≤ p) (h1 : p < 18446744073709551616) : num8 (p % 256) (p / 256 % 256) (p / 65536 % 256) (p / 16777216 % 256) (p / 4294967296 % 256) (p / 1099511627776 % 256) (p / 281474976710656 % 256) (p / 72057594037927936 % 256) = p := by unfold num8; omega
theorem partsBack (h x y z : Int) (h0 : 0 ≤ h) (h1 : h < 4294967296) (e : partsR h = (x, y, z)) : handleR x y z = (h, 0) := by
  simp only [partsR, Prod.mk.injEq] at e
  obtain ⟨rfl, rfl, rfl⟩ := e
  unfold handleR
  rw [if_pos (by omega), show h % 256 + 256 * (h / 256 % 256) + 65536 * (h / 65536) = h by omega]
theorem own16 {w w' : World} {v : Value} {a b c h p : Int} (hR : OwnBytes w w' v (bytes16 a b c h p)) : ∃ (ad : Addr) (k : Nat), v = .slice (some ad) 16 k ∧ 16 ≤ k ∧ (Kd.int .u8).C w' (some ad) 16 (bytes16 a b c h p) := by
  obtain ⟨ad, k, rfl⟩ := Kd.R_slice1 hR (show 0 < 16 by decide)
  obtain ⟨_, hk, hC⟩ := Kd.R_reads' hR
  exact ⟨ad, k, rfl, hk, hC⟩
theorem parse25_back (kd a rt h p : Int) (h0 : 0 ≤ h) (h1 : h < 4294967296) (p0 : 0 ≤ p) (p1 : p < 18446744073709551616) (hq : isReq kd a rt h p = true) (ad : Addr) (c : Nat) (w : World) (hP : PartsHeld w) (hC : (Kd.int .u8).C w (some ad) 16 (bytes16 kd a rt h p)) (hc : 16 ≤ c) :
    Calls Tryd.prog 25 #[.slice (some ad) 16 c] w fun e w' => e = .returned (.tuple #[.agg #[.int .u8 kd, .int .u8 a, .int .u8 rt, .int .u32 h, .int .u64 p], .int .i64 0]) ∧ Below w.heap.size w w' := by
  have k := parse25_16 (some ad) c kd a rt 0 (h % 256) (h / 256 % 256) (h / 65536 % 256) (h / 16777216 % 256) (p % 256) (p / 256 % 256) (p / 65536 % 256) (p / 16777216 % 256) (p / 4294967296 % 256) (p / 1099511627776 % 256) (p / 281474976710656 % 256) (p / 72057594037927936 % 256) (by omega) (by omega) (by omega) (by omega) (by omega) (by omega) (by omega) (by omega) (by omega) (by omega) (by omega) (by omega) (by omega) (by omega) (by omega) (by omega) (by omega) (by omega) (by omega) (by omega) (by omega) (by omega) (by omega) (by omega)  w hP hC hc (by decide) true (by rw [num4_le4 h h0 h1, num8_le8 p p0 p1]; exact hq)
  rw [num4_le4 h h0 h1, num8_le8 p p0 p1] at k
  exact k
theorem parse27_back (cd a h p : Int) (h0 : 0 ≤ h) (h1 : h < 4294967296) (p0 : 0 ≤ p) (p1 : p < 18446744073709551616) (hq : isRep cd a h p = true) (ad : Addr) (c : Nat) (w : World) (hP : PartsHeld w) (hC : (Kd.int .u8).C w (some ad) 16 (bytes16 cd a 0 h p)) (hc : 16 ≤ c) :
    Calls Tryd.prog 27 #[.slice (some ad) 16 c] w fun e w' => e = .returned (.tuple #[.agg #[.int .u8 cd, .int .u8 a, .int .u32 h, .int .u64 p], .int .i64 0]) ∧ Below w.heap.size w w' := by
  have k := parse27_16 (some ad) c cd a 0 0 (h % 256) (h / 256 % 256) (h / 65536 % 256) (h / 16777216 % 256) (p % 256) (p / 256 % 256) (p / 65536 % 256) (p / 16777216 % 256) (p / 4294967296 % 256) (p / 1099511627776 % 256) (p / 281474976710656 % 256) (p / 72057594037927936 % 256) (by omega) (by omega) (by omega) (by omega) (by omega) (by omega) (by omega) (by omega) (by omega) (by omega) (by omega) (by omega) (by omega) (by omega) (by omega) (by omega) (by omega) (by omega) (by omega) (by omega) (by omega) (by omega) (by omega) (by omega)  w hP hC hc (by decide) (by decide) true (by rw [num4_le4 h h0 h1, num8_le8 p p0 p1]; exact hq)
  rw [num4_le4 h h0 h1, num8_le8 p p0 p1] at k
  exact k

set_option maxHeartbeats 1000000 in
set_option maxRecDepth 100000 in
theorem back9_yy (kd a rt h p cd b g q u : Int) (h0 : 0 ≤ h) (h1 : h < 4294967296) (p0 : 0 ≤ p) (p1 : p < 18446744073709551616) (g0 : 0 ≤ g) (g1 : g < 4294967296) (q0 : 0 ≤ q) (q1 : q < 18446744073709551616) (u0 : 0 ≤ u) (u1 : u < 4294967296) (w : World) (hP : PartsHeld w) (hq : isReq kd a rt h p = true) (hr : isRep cd b g q = true) : Calls Tryd.prog 9 #[.agg #[.int .u8 kd, .int .u8 a, .int .u8 rt, .int .u32 h, .int .u64 p], .agg #[.int .u8 cd, .int .u8 b, .int .u32 g, .int .u64 q], .int .u32 u] w fun e w' => e = .returned (.bool true) ∧ Below w.heap.size w w' := by
  obtain ⟨x, y, z, hu⟩ : ∃ x y z, partsR u = (x, y, z) := ⟨_, _, _, rfl⟩
  have HU := Lib.hid hu
  have HH := Lib.hid (partsBack u x y z u0 u1 hu)
  have U0 := Lib.hid u0
  have U1 := Lib.hid u1
  have HA := Lib.hid (bytes10 kd a rt h p h0 h1)
  have HS := Lib.hid (reply23 cd b g q g0 g1)
  have HI := Lib.hid (is_eq kd a rt h p)
  have HJ := Lib.hid (isReply_eq cd b g q)
  rw [hq] at HA HI
  rw [hr] at HS HJ
  have PB := Lib.hid (parse25_back kd a rt h p h0 h1 p0 p1 hq)
  have RB := Lib.hid (parse27_back cd b g q g0 g1 q0 q1 hr)
  have HP := Lib.hid hP
  clear hu hq hr hP h0 h1 p0 p1 g0 g1 q0 q1 u0 u1
  go_enter Tryd.func9, Tryd.ntmps9
  go_wp2_with fail
  refine (parts17 u x y z U0.out U1.out HU.out _).mono ?_
  rintro e w1 ⟨rfl, hb1⟩
  obtain ⟨hc1, hf1⟩ := vbcell hb1
  have hz1 : w.heap.size + 1 + 1 ≤ w1.heap.size := (by have h_ := hb1.size; (try simp only [World.size_alloc, World.size_setCell, World.size_drew, World.heap_drewN] at h_); omega)
  have hc1_0_0 := fun o => hc1 (w.heap.size) o (by (try simp only [World.size_alloc, World.size_setCell, World.size_drew, World.heap_drewN]); omega)
  have hf1_0_0 := fun o => hf1 (w.heap.size) o (by (try simp only [World.size_alloc, World.size_setCell, World.size_drew, World.heap_drewN]); omega)
  have hc1_0_1 := fun o => hc1 (w.heap.size + 1) o (by (try simp only [World.size_alloc, World.size_setCell, World.size_drew, World.heap_drewN]); omega)
  have hf1_0_1 := fun o => hf1 (w.heap.size + 1) o (by (try simp only [World.size_alloc, World.size_setCell, World.size_drew, World.heap_drewN]); omega)
  have HB1 : Below w.heap.size w w1 := vbelow_step (by repeat (first | (with_reducible exact Below.refl _ _) | (with_reducible refine vbelow_alloc ?_ _) | (with_reducible refine vbelow_drew ?_) | (with_reducible refine vbelow_drewN ?_ _) | (with_reducible refine vbelow_set ?_ (by first | exact Nat.le_refl _ | (dsimp only; omega) | omega)))) hb1
  clear hc1 hf1 hb1
  have hz1_0_0 : w.heap.size < w1.heap.size := (by omega)
  have hz1_0_1 : w.heap.size + 1 < w1.heap.size := (by omega)
  go_wp2_with fail
  refine (handle15 x y z u 0 HH.out _).mono ?_
  rintro e w2 ⟨rfl, hb2⟩
  obtain ⟨hc2, hf2⟩ := vbcell hb2
  have hz2 : w1.heap.size ≤ w2.heap.size := (by have h_ := hb2.size; (try simp only [World.size_alloc, World.size_setCell, World.size_drew, World.heap_drewN] at h_); omega)
  have hc2_0_0 := fun o => hc2 (w.heap.size) o (by (try simp only [World.size_alloc, World.size_setCell, World.size_drew, World.heap_drewN]); omega)
  have hf2_0_0 := fun o => hf2 (w.heap.size) o (by (try simp only [World.size_alloc, World.size_setCell, World.size_drew, World.heap_drewN]); omega)
  have hc2_0_1 := fun o => hc2 (w.heap.size + 1) o (by (try simp only [World.size_alloc, World.size_setCell, World.size_drew, World.heap_drewN]); omega)
  have hf2_0_1 := fun o => hf2 (w.heap.size + 1) o (by (try simp only [World.size_alloc, World.size_setCell, World.size_drew, World.heap_drewN]); omega)
  have HB2 : Below w.heap.size w w2 := vbelow_step (by repeat (first | (with_reducible exact Below.refl _ _) | (with_reducible exact HB1) | (with_reducible refine vbelow_alloc ?_ _) | (with_reducible refine vbelow_drew ?_) | (with_reducible refine vbelow_drewN ?_ _) | (with_reducible refine vbelow_set ?_ (by first | exact Nat.le_refl _ | (dsimp only; omega) | omega)))) hb2
  clear hc2 hf2 hb2 HB1
  have hz2_0_0 : w.heap.size < w2.heap.size := (by omega)
  have hz2_0_1 : w.heap.size + 1 < w2.heap.size := (by omega)
  go_wp2_with fail
  refine (HA.out _ (HP.out.below (by repeat (first | (with_reducible exact Below.refl _ _) | (with_reducible exact HB2) | (with_reducible refine vbelow_alloc ?_ _) | (with_reducible refine vbelow_drew ?_) | (with_reducible refine vbelow_drewN ?_ _) | (with_reducible refine vbelow_set ?_ (by first | exact Nat.le_refl _ | (dsimp only; omega) | omega)))))).mono ?_
  rintro e w3 ⟨v3, rfl, hR3, hb3⟩
  simp only [if_true] at hR3
  obtain ⟨ad3, k3, rfl, hk3, hC3⟩ := own16 hR3
  have HC3 := Lib.hid hC3
  clear hR3 hC3
  obtain ⟨hc3, hf3⟩ := vbcell hb3
  have hz3 : w2.heap.size ≤ w3.heap.size := (by have h_ := hb3.size; (try simp only [World.size_alloc, World.size_setCell, World.size_drew, World.heap_drewN] at h_); omega)
  have hc3_0_0 := fun o => hc3 (w.heap.size) o (by (try simp only [World.size_alloc, World.size_setCell, World.size_drew, World.heap_drewN]); omega)
  have hf3_0_0 := fun o => hf3 (w.heap.size) o (by (try simp only [World.size_alloc, World.size_setCell, World.size_drew, World.heap_drewN]); omega)
  have hc3_0_1 := fun o => hc3 (w.heap.size + 1) o (by (try simp only [World.size_alloc, World.size_setCell, World.size_drew, World.heap_drewN]); omega)
  have hf3_0_1 := fun o => hf3 (w.heap.size + 1) o (by (try simp only [World.size_alloc, World.size_setCell, World.size_drew, World.heap_drewN]); omega)
  have HB3 : Below w.heap.size w w3 := vbelow_step (by repeat (first | (with_reducible exact Below.refl _ _) | (with_reducible exact HB2) | (with_reducible refine vbelow_alloc ?_ _) | (with_reducible refine vbelow_drew ?_) | (with_reducible refine vbelow_drewN ?_ _) | (with_reducible refine vbelow_set ?_ (by first | exact Nat.le_refl _ | (dsimp only; omega) | omega)))) hb3
  clear hc3 hf3 hb3 HB2
  have hz3_0_0 : w.heap.size < w3.heap.size := (by omega)
  have hz3_0_1 : w.heap.size + 1 < w3.heap.size := (by omega)
  go_wp2_with fail
  refine (PB.out ad3 k3 _ (HP.out.below (by repeat (first | (with_reducible exact Below.refl _ _) | (with_reducible exact HB3) | (with_reducible refine vbelow_alloc ?_ _) | (with_reducible refine vbelow_drew ?_) | (with_reducible refine vbelow_drewN ?_ _) | (with_reducible refine vbelow_set ?_ (by first | exact Nat.le_refl _ | (dsimp only; omega) | omega))))) HC3.out hk3).mono ?_
  rintro e w4 ⟨rfl, hb4⟩
  obtain ⟨hc4, hf4⟩ := vbcell hb4
  have hz4 : w3.heap.size ≤ w4.heap.size := (by have h_ := hb4.size; (try simp only [World.size_alloc, World.size_setCell, World.size_drew, World.heap_drewN] at h_); omega)
  have hc4_0_0 := fun o => hc4 (w.heap.size) o (by (try simp only [World.size_alloc, World.size_setCell, World.size_drew, World.heap_drewN]); omega)
  have hf4_0_0 := fun o => hf4 (w.heap.size) o (by (try simp only [World.size_alloc, World.size_setCell, World.size_drew, World.heap_drewN]); omega)
  have hc4_0_1 := fun o => hc4 (w.heap.size + 1) o (by (try simp only [World.size_alloc, World.size_setCell, World.size_drew, World.heap_drewN]); omega)
  have hf4_0_1 := fun o => hf4 (w.heap.size + 1) o (by (try simp only [World.size_alloc, World.size_setCell, World.size_drew, World.heap_drewN]); omega)
  have HB4 : Below w.heap.size w w4 := vbelow_step (by repeat (first | (with_reducible exact Below.refl _ _) | (with_reducible exact HB3) | (with_reducible refine vbelow_alloc ?_ _) | (with_reducible refine vbelow_drew ?_) | (with_reducible refine vbelow_drewN ?_ _) | (with_reducible refine vbelow_set ?_ (by first | exact Nat.le_refl _ | (dsimp only; omega) | omega)))) hb4
  clear hc4 hf4 hb4 HB3
  have hz4_0_0 : w.heap.size < w4.heap.size := (by omega)
  have hz4_0_1 : w.heap.size + 1 < w4.heap.size := (by omega)
  go_wp2_with fail
  refine (HS.out _ (HP.out.below (by repeat (first | (with_reducible exact Below.refl _ _) | (with_reducible exact HB4) | (with_reducible refine vbelow_alloc ?_ _) | (with_reducible refine vbelow_drew ?_) | (with_reducible refine vbelow_drewN ?_ _) | (with_reducible refine vbelow_set ?_ (by first | exact Nat.le_refl _ | (dsimp only; omega) | omega)))))).mono ?_
  rintro e w5 ⟨v5, rfl, hR5, hb5⟩
  simp only [if_true] at hR5
  obtain ⟨ad5, k5, rfl, hk5, hC5⟩ := own16 hR5
  have HC5 := Lib.hid hC5
  clear hR5 hC5
  obtain ⟨hc5, hf5⟩ := vbcell hb5
  have hz5 : w4.heap.size + 1 ≤ w5.heap.size := (by have h_ := hb5.size; (try simp only [World.size_alloc, World.size_setCell, World.size_drew, World.heap_drewN] at h_); omega)
  have hc5_0_0 := fun o => hc5 (w.heap.size) o (by (try simp only [World.size_alloc, World.size_setCell, World.size_drew, World.heap_drewN]); omega)
  have hf5_0_0 := fun o => hf5 (w.heap.size) o (by (try simp only [World.size_alloc, World.size_setCell, World.size_drew, World.heap_drewN]); omega)
  have hc5_0_1 := fun o => hc5 (w.heap.size + 1) o (by (try simp only [World.size_alloc, World.size_setCell, World.size_drew, World.heap_drewN]); omega)
  have hf5_0_1 := fun o => hf5 (w.heap.size + 1) o (by (try simp only [World.size_alloc, World.size_setCell, World.size_drew, World.heap_drewN]); omega)
  have hc5_4_0 := fun o => hc5 (w4.heap.size) o (by (try simp only [World.size_alloc, World.size_setCell, World.size_drew, World.heap_drewN]); omega)
  have hf5_4_0 := fun o => hf5 (w4.heap.size) o (by (try simp only [World.size_alloc, World.size_setCell, World.size_drew, World.heap_drewN]); omega)
  have HB5 : Below w.heap.size w w5 := vbelow_step (by repeat (first | (with_reducible exact Below.refl _ _) | (with_reducible exact HB4) | (with_reducible refine vbelow_alloc ?_ _) | (with_reducible refine vbelow_drew ?_) | (with_reducible refine vbelow_drewN ?_ _) | (with_reducible refine vbelow_set ?_ (by first | exact Nat.le_refl _ | (dsimp only; omega) | omega)))) hb5
  clear hc5 hf5 hb5 HB4
  have hz5_0_0 : w.heap.size < w5.heap.size := (by omega)
  have hz5_0_1 : w.heap.size + 1 < w5.heap.size := (by omega)
  have hz5_4_0 : w4.heap.size < w5.heap.size := (by omega)
  go_wp2_with fail
  refine (RB.out ad5 k5 _ (HP.out.below (by repeat (first | (with_reducible exact Below.refl _ _) | (with_reducible exact HB5) | (with_reducible refine vbelow_alloc ?_ _) | (with_reducible refine vbelow_drew ?_) | (with_reducible refine vbelow_drewN ?_ _) | (with_reducible refine vbelow_set ?_ (by first | exact Nat.le_refl _ | (dsimp only; omega) | omega))))) HC5.out hk5).mono ?_
  rintro e w6 ⟨rfl, hb6⟩
  obtain ⟨hc6, hf6⟩ := vbcell hb6
  have hz6 : w5.heap.size ≤ w6.heap.size := (by have h_ := hb6.size; (try simp only [World.size_alloc, World.size_setCell, World.size_drew, World.heap_drewN] at h_); omega)
  have hc6_0_0 := fun o => hc6 (w.heap.size) o (by (try simp only [World.size_alloc, World.size_setCell, World.size_drew, World.heap_drewN]); omega)
  have hf6_0_0 := fun o => hf6 (w.heap.size) o (by (try simp only [World.size_alloc, World.size_setCell, World.size_drew, World.heap_drewN]); omega)
  have hc6_0_1 := fun o => hc6 (w.heap.size + 1) o (by (try simp only [World.size_alloc, World.size_setCell, World.size_drew, World.heap_drewN]); omega)
  have hf6_0_1 := fun o => hf6 (w.heap.size + 1) o (by (try simp only [World.size_alloc, World.size_setCell, World.size_drew, World.heap_drewN]); omega)
  have hc6_4_0 := fun o => hc6 (w4.heap.size) o (by (try simp only [World.size_alloc, World.size_setCell, World.size_drew, World.heap_drewN]); omega)
  have hf6_4_0 := fun o => hf6 (w4.heap.size) o (by (try simp only [World.size_alloc, World.size_setCell, World.size_drew, World.heap_drewN]); omega)
  have HB6 : Below w.heap.size w w6 := vbelow_step (by repeat (first | (with_reducible exact Below.refl _ _) | (with_reducible exact HB5) | (with_reducible refine vbelow_alloc ?_ _) | (with_reducible refine vbelow_drew ?_) | (with_reducible refine vbelow_drewN ?_ _) | (with_reducible refine vbelow_set ?_ (by first | exact Nat.le_refl _ | (dsimp only; omega) | omega)))) hb6
  clear hc6 hf6 hb6 HB5
  have hz6_0_0 : w.heap.size < w6.heap.size := (by omega)
  have hz6_0_1 : w.heap.size + 1 < w6.heap.size := (by omega)
  have hz6_4_0 : w4.heap.size < w6.heap.size := (by omega)
  go_wp2_with fail
  refine (rampartref03_Is.calls 3 kd a rt h p true _ HI.out).mono ?_
  rintro e w7 ⟨rfl, hb7⟩
  obtain ⟨hc7, hf7⟩ := vbcell hb7
  have hz7 : w6.heap.size + 1 ≤ w7.heap.size := (by have h_ := hb7.size; (try simp only [World.size_alloc, World.size_setCell, World.size_drew, World.heap_drewN] at h_); omega)
  have hc7_0_0 := fun o => hc7 (w.heap.size) o (by (try simp only [World.size_alloc, World.size_setCell, World.size_drew, World.heap_drewN]); omega)
  have hf7_0_0 := fun o => hf7 (w.heap.size) o (by (try simp only [World.size_alloc, World.size_setCell, World.size_drew, World.heap_drewN]); omega)
  have hc7_0_1 := fun o => hc7 (w.heap.size + 1) o (by (try simp only [World.size_alloc, World.size_setCell, World.size_drew, World.heap_drewN]); omega)
  have hf7_0_1 := fun o => hf7 (w.heap.size + 1) o (by (try simp only [World.size_alloc, World.size_setCell, World.size_drew, World.heap_drewN]); omega)
  have hc7_4_0 := fun o => hc7 (w4.heap.size) o (by (try simp only [World.size_alloc, World.size_setCell, World.size_drew, World.heap_drewN]); omega)
  have hf7_4_0 := fun o => hf7 (w4.heap.size) o (by (try simp only [World.size_alloc, World.size_setCell, World.size_drew, World.heap_drewN]); omega)
  have hc7_6_0 := fun o => hc7 (w6.heap.size) o (by (try simp only [World.size_alloc, World.size_setCell, World.size_drew, World.heap_drewN]); omega)
  have hf7_6_0 := fun o => hf7 (w6.heap.size) o (by (try simp only [World.size_alloc, World.size_setCell, World.size_drew, World.heap_drewN]); omega)
  have HB7 : Below w.heap.size w w7 := vbelow_step (by repeat (first | (with_reducible exact Below.refl _ _) | (with_reducible exact HB6) | (with_reducible refine vbelow_alloc ?_ _) | (with_reducible refine vbelow_drew ?_) | (with_reducible refine vbelow_drewN ?_ _) | (with_reducible refine vbelow_set ?_ (by first | exact Nat.le_refl _ | (dsimp only; omega) | omega)))) hb7
  clear hc7 hf7 hb7 HB6
  have hz7_0_0 : w.heap.size < w7.heap.size := (by omega)
  have hz7_0_1 : w.heap.size + 1 < w7.heap.size := (by omega)
  have hz7_4_0 : w4.heap.size < w7.heap.size := (by omega)
  have hz7_6_0 : w6.heap.size < w7.heap.size := (by omega)
  go_wp2_with fail
  refine (rampartref03_IsReply.calls cd b g q true _ HJ.out).mono ?_
  rintro e w8 ⟨rfl, hb8⟩
  obtain ⟨hc8, hf8⟩ := vbcell hb8
  have hz8 : w7.heap.size ≤ w8.heap.size := (by have h_ := hb8.size; (try simp only [World.size_alloc, World.size_setCell, World.size_drew, World.heap_drewN] at h_); omega)
  have hc8_0_0 := fun o => hc8 (w.heap.size) o (by (try simp only [World.size_alloc, World.size_setCell, World.size_drew, World.heap_drewN]); omega)
  have hf8_0_0 := fun o => hf8 (w.heap.size) o (by (try simp only [World.size_alloc, World.size_setCell, World.size_drew, World.heap_drewN]); omega)
  have hc8_0_1 := fun o => hc8 (w.heap.size + 1) o (by (try simp only [World.size_alloc, World.size_setCell, World.size_drew, World.heap_drewN]); omega)
  have hf8_0_1 := fun o => hf8 (w.heap.size + 1) o (by (try simp only [World.size_alloc, World.size_setCell, World.size_drew, World.heap_drewN]); omega)
  have hc8_4_0 := fun o => hc8 (w4.heap.size) o (by (try simp only [World.size_alloc, World.size_setCell, World.size_drew, World.heap_drewN]); omega)
  have hf8_4_0 := fun o => hf8 (w4.heap.size) o (by (try simp only [World.size_alloc, World.size_setCell, World.size_drew, World.heap_drewN]); omega)
  have hc8_6_0 := fun o => hc8 (w6.heap.size) o (by (try simp only [World.size_alloc, World.size_setCell, World.size_drew, World.heap_drewN]); omega)
  have hf8_6_0 := fun o => hf8 (w6.heap.size) o (by (try simp only [World.size_alloc, World.size_setCell, World.size_drew, World.heap_drewN]); omega)
  have HB8 : Below w.heap.size w w8 := vbelow_step (by repeat (first | (with_reducible exact Below.refl _ _) | (with_reducible exact HB7) | (with_reducible refine vbelow_alloc ?_ _) | (with_reducible refine vbelow_drew ?_) | (with_reducible refine vbelow_drewN ?_ _) | (with_reducible refine vbelow_set ?_ (by first | exact Nat.le_refl _ | (dsimp only; omega) | omega)))) hb8
  clear hc8 hf8 hb8 HB7
  have hz8_0_0 : w.heap.size < w8.heap.size := (by omega)
  have hz8_0_1 : w.heap.size + 1 < w8.heap.size := (by omega)
  have hz8_4_0 : w4.heap.size < w8.heap.size := (by omega)
  have hz8_6_0 : w6.heap.size < w8.heap.size := (by omega)
  go_wp2_with fail
  refine (alive14 _ (HP.out.below (by repeat (first | (with_reducible exact Below.refl _ _) | (with_reducible exact HB8) | (with_reducible refine vbelow_alloc ?_ _) | (with_reducible refine vbelow_drew ?_) | (with_reducible refine vbelow_drewN ?_ _) | (with_reducible refine vbelow_set ?_ (by first | exact Nat.le_refl _ | (dsimp only; omega) | omega)))))).mono ?_
  rintro e w9 ⟨rfl, hb9⟩
  obtain ⟨hc9, hf9⟩ := vbcell hb9
  have hz9 : w8.heap.size ≤ w9.heap.size := (by have h_ := hb9.size; (try simp only [World.size_alloc, World.size_setCell, World.size_drew, World.heap_drewN] at h_); omega)
  have hc9_0_0 := fun o => hc9 (w.heap.size) o (by (try simp only [World.size_alloc, World.size_setCell, World.size_drew, World.heap_drewN]); omega)
  have hf9_0_0 := fun o => hf9 (w.heap.size) o (by (try simp only [World.size_alloc, World.size_setCell, World.size_drew, World.heap_drewN]); omega)
  have hc9_0_1 := fun o => hc9 (w.heap.size + 1) o (by (try simp only [World.size_alloc, World.size_setCell, World.size_drew, World.heap_drewN]); omega)
  have hf9_0_1 := fun o => hf9 (w.heap.size + 1) o (by (try simp only [World.size_alloc, World.size_setCell, World.size_drew, World.heap_drewN]); omega)
  have hc9_4_0 := fun o => hc9 (w4.heap.size) o (by (try simp only [World.size_alloc, World.size_setCell, World.size_drew, World.heap_drewN]); omega)
  have hf9_4_0 := fun o => hf9 (w4.heap.size) o (by (try simp only [World.size_alloc, World.size_setCell, World.size_drew, World.heap_drewN]); omega)
  have hc9_6_0 := fun o => hc9 (w6.heap.size) o (by (try simp only [World.size_alloc, World.size_setCell, World.size_drew, World.heap_drewN]); omega)
  have hf9_6_0 := fun o => hf9 (w6.heap.size) o (by (try simp only [World.size_alloc, World.size_setCell, World.size_drew, World.heap_drewN]); omega)
  have HB9 : Below w.heap.size w w9 := vbelow_step (by repeat (first | (with_reducible exact Below.refl _ _) | (with_reducible exact HB8) | (with_reducible refine vbelow_alloc ?_ _) | (with_reducible refine vbelow_drew ?_) | (with_reducible refine vbelow_drewN ?_ _) | (with_reducible refine vbelow_set ?_ (by first | exact Nat.le_refl _ | (dsimp only; omega) | omega)))) hb9
  clear hc9 hf9 hb9 HB8
  have hz9_0_0 : w.heap.size < w9.heap.size := (by omega)
  have hz9_0_1 : w.heap.size + 1 < w9.heap.size := (by omega)
  have hz9_4_0 : w4.heap.size < w9.heap.size := (by omega)
  have hz9_6_0 : w6.heap.size < w9.heap.size := (by omega)
  go_wp2
  go_ret
  exact ⟨rfl, (by repeat (first | (with_reducible exact Below.refl _ _) | (with_reducible exact HB9) | (with_reducible refine vbelow_alloc ?_ _) | (with_reducible refine vbelow_drew ?_) | (with_reducible refine vbelow_drewN ?_ _) | (with_reducible refine vbelow_set ?_ (by first | exact Nat.le_refl _ | (dsimp only; omega) | omega))))⟩

set_option maxHeartbeats 1000000 in
set_option maxRecDepth 100000 in
theorem back9_yn (kd a rt h p cd b g q u : Int) (h0 : 0 ≤ h) (h1 : h < 4294967296) (p0 : 0 ≤ p) (p1 : p < 18446744073709551616) (g0 : 0 ≤ g) (g1 : g < 4294967296) (q0 : 0 ≤ q) (q1 : q < 18446744073709551616) (u0 : 0 ≤ u) (u1 : u < 4294967296) (w : World) (hP : PartsHeld w) (hq : isReq kd a rt h p = true) (hr : isRep cd b g q = false) : Calls Tryd.prog 9 #[.agg #[.int .u8 kd, .int .u8 a, .int .u8 rt, .int .u32 h, .int .u64 p], .agg #[.int .u8 cd, .int .u8 b, .int .u32 g, .int .u64 q], .int .u32 u] w fun e w' => e = .returned (.bool true) ∧ Below w.heap.size w w' := by
  obtain ⟨x, y, z, hu⟩ : ∃ x y z, partsR u = (x, y, z) := ⟨_, _, _, rfl⟩
  have HU := Lib.hid hu
  have HH := Lib.hid (partsBack u x y z u0 u1 hu)
  have U0 := Lib.hid u0
  have U1 := Lib.hid u1
  have HA := Lib.hid (bytes10 kd a rt h p h0 h1)
  have HS := Lib.hid (reply23 cd b g q g0 g1)
  have HI := Lib.hid (is_eq kd a rt h p)
  have HJ := Lib.hid (isReply_eq cd b g q)
  rw [hq] at HA HI
  rw [hr] at HS HJ
  have PB := Lib.hid (parse25_back kd a rt h p h0 h1 p0 p1 hq)
  have HP := Lib.hid hP
  clear hu hq hr hP h0 h1 p0 p1 g0 g1 q0 q1 u0 u1
  go_enter Tryd.func9, Tryd.ntmps9
  go_wp2_with fail
  refine (parts17 u x y z U0.out U1.out HU.out _).mono ?_
  rintro e w1 ⟨rfl, hb1⟩
  obtain ⟨hc1, hf1⟩ := vbcell hb1
  have hz1 : w.heap.size + 1 + 1 ≤ w1.heap.size := (by have h_ := hb1.size; (try simp only [World.size_alloc, World.size_setCell, World.size_drew, World.heap_drewN] at h_); omega)
  have hc1_0_0 := fun o => hc1 (w.heap.size) o (by (try simp only [World.size_alloc, World.size_setCell, World.size_drew, World.heap_drewN]); omega)
  have hf1_0_0 := fun o => hf1 (w.heap.size) o (by (try simp only [World.size_alloc, World.size_setCell, World.size_drew, World.heap_drewN]); omega)
  have hc1_0_1 := fun o => hc1 (w.heap.size + 1) o (by (try simp only [World.size_alloc, World.size_setCell, World.size_drew, World.heap_drewN]); omega)
  have hf1_0_1 := fun o => hf1 (w.heap.size + 1) o (by (try simp only [World.size_alloc, World.size_setCell, World.size_drew, World.heap_drewN]); omega)
  have HB1 : Below w.heap.size w w1 := vbelow_step (by repeat (first | (with_reducible exact Below.refl _ _) | (with_reducible refine vbelow_alloc ?_ _) | (with_reducible refine vbelow_drew ?_) | (with_reducible refine vbelow_drewN ?_ _) | (with_reducible refine vbelow_set ?_ (by first | exact Nat.le_refl _ | (dsimp only; omega) | omega)))) hb1
  clear hc1 hf1 hb1
  have hz1_0_0 : w.heap.size < w1.heap.size := (by omega)
  have hz1_0_1 : w.heap.size + 1 < w1.heap.size := (by omega)
  go_wp2_with fail
  refine (handle15 x y z u 0 HH.out _).mono ?_
  rintro e w2 ⟨rfl, hb2⟩
  obtain ⟨hc2, hf2⟩ := vbcell hb2
  have hz2 : w1.heap.size ≤ w2.heap.size := (by have h_ := hb2.size; (try simp only [World.size_alloc, World.size_setCell, World.size_drew, World.heap_drewN] at h_); omega)
  have hc2_0_0 := fun o => hc2 (w.heap.size) o (by (try simp only [World.size_alloc, World.size_setCell, World.size_drew, World.heap_drewN]); omega)
  have hf2_0_0 := fun o => hf2 (w.heap.size) o (by (try simp only [World.size_alloc, World.size_setCell, World.size_drew, World.heap_drewN]); omega)
  have hc2_0_1 := fun o => hc2 (w.heap.size + 1) o (by (try simp only [World.size_alloc, World.size_setCell, World.size_drew, World.heap_drewN]); omega)
  have hf2_0_1 := fun o => hf2 (w.heap.size + 1) o (by (try simp only [World.size_alloc, World.size_setCell, World.size_drew, World.heap_drewN]); omega)
  have HB2 : Below w.heap.size w w2 := vbelow_step (by repeat (first | (with_reducible exact Below.refl _ _) | (with_reducible exact HB1) | (with_reducible refine vbelow_alloc ?_ _) | (with_reducible refine vbelow_drew ?_) | (with_reducible refine vbelow_drewN ?_ _) | (with_reducible refine vbelow_set ?_ (by first | exact Nat.le_refl _ | (dsimp only; omega) | omega)))) hb2
  clear hc2 hf2 hb2 HB1
  have hz2_0_0 : w.heap.size < w2.heap.size := (by omega)
  have hz2_0_1 : w.heap.size + 1 < w2.heap.size := (by omega)
  go_wp2_with fail
  refine (HA.out _ (HP.out.below (by repeat (first | (with_reducible exact Below.refl _ _) | (with_reducible exact HB2) | (with_reducible refine vbelow_alloc ?_ _) | (with_reducible refine vbelow_drew ?_) | (with_reducible refine vbelow_drewN ?_ _) | (with_reducible refine vbelow_set ?_ (by first | exact Nat.le_refl _ | (dsimp only; omega) | omega)))))).mono ?_
  rintro e w3 ⟨v3, rfl, hR3, hb3⟩
  simp only [if_true] at hR3
  obtain ⟨ad3, k3, rfl, hk3, hC3⟩ := own16 hR3
  have HC3 := Lib.hid hC3
  clear hR3 hC3
  obtain ⟨hc3, hf3⟩ := vbcell hb3
  have hz3 : w2.heap.size ≤ w3.heap.size := (by have h_ := hb3.size; (try simp only [World.size_alloc, World.size_setCell, World.size_drew, World.heap_drewN] at h_); omega)
  have hc3_0_0 := fun o => hc3 (w.heap.size) o (by (try simp only [World.size_alloc, World.size_setCell, World.size_drew, World.heap_drewN]); omega)
  have hf3_0_0 := fun o => hf3 (w.heap.size) o (by (try simp only [World.size_alloc, World.size_setCell, World.size_drew, World.heap_drewN]); omega)
  have hc3_0_1 := fun o => hc3 (w.heap.size + 1) o (by (try simp only [World.size_alloc, World.size_setCell, World.size_drew, World.heap_drewN]); omega)
  have hf3_0_1 := fun o => hf3 (w.heap.size + 1) o (by (try simp only [World.size_alloc, World.size_setCell, World.size_drew, World.heap_drewN]); omega)
  have HB3 : Below w.heap.size w w3 := vbelow_step (by repeat (first | (with_reducible exact Below.refl _ _) | (with_reducible exact HB2) | (with_reducible refine vbelow_alloc ?_ _) | (with_reducible refine vbelow_drew ?_) | (with_reducible refine vbelow_drewN ?_ _) | (with_reducible refine vbelow_set ?_ (by first | exact Nat.le_refl _ | (dsimp only; omega) | omega)))) hb3
  clear hc3 hf3 hb3 HB2
  have hz3_0_0 : w.heap.size < w3.heap.size := (by omega)
  have hz3_0_1 : w.heap.size + 1 < w3.heap.size := (by omega)
  go_wp2_with fail
  refine (PB.out ad3 k3 _ (HP.out.below (by repeat (first | (with_reducible exact Below.refl _ _) | (with_reducible exact HB3) | (with_reducible refine vbelow_alloc ?_ _) | (with_reducible refine vbelow_drew ?_) | (with_reducible refine vbelow_drewN ?_ _) | (with_reducible refine vbelow_set ?_ (by first | exact Nat.le_refl _ | (dsimp only; omega) | omega))))) HC3.out hk3).mono ?_
  rintro e w4 ⟨rfl, hb4⟩
  obtain ⟨hc4, hf4⟩ := vbcell hb4
  have hz4 : w3.heap.size ≤ w4.heap.size := (by have h_ := hb4.size; (try simp only [World.size_alloc, World.size_setCell, World.size_drew, World.heap_drewN] at h_); omega)
  have hc4_0_0 := fun o => hc4 (w.heap.size) o (by (try simp only [World.size_alloc, World.size_setCell, World.size_drew, World.heap_drewN]); omega)
  have hf4_0_0 := fun o => hf4 (w.heap.size) o (by (try simp only [World.size_alloc, World.size_setCell, World.size_drew, World.heap_drewN]); omega)
  have hc4_0_1 := fun o => hc4 (w.heap.size + 1) o (by (try simp only [World.size_alloc, World.size_setCell, World.size_drew, World.heap_drewN]); omega)
  have hf4_0_1 := fun o => hf4 (w.heap.size + 1) o (by (try simp only [World.size_alloc, World.size_setCell, World.size_drew, World.heap_drewN]); omega)
  have HB4 : Below w.heap.size w w4 := vbelow_step (by repeat (first | (with_reducible exact Below.refl _ _) | (with_reducible exact HB3) | (with_reducible refine vbelow_alloc ?_ _) | (with_reducible refine vbelow_drew ?_) | (with_reducible refine vbelow_drewN ?_ _) | (with_reducible refine vbelow_set ?_ (by first | exact Nat.le_refl _ | (dsimp only; omega) | omega)))) hb4
  clear hc4 hf4 hb4 HB3
  have hz4_0_0 : w.heap.size < w4.heap.size := (by omega)
  have hz4_0_1 : w.heap.size + 1 < w4.heap.size := (by omega)
  go_wp2_with fail
  refine (HS.out _ (HP.out.below (by repeat (first | (with_reducible exact Below.refl _ _) | (with_reducible exact HB4) | (with_reducible refine vbelow_alloc ?_ _) | (with_reducible refine vbelow_drew ?_) | (with_reducible refine vbelow_drewN ?_ _) | (with_reducible refine vbelow_set ?_ (by first | exact Nat.le_refl _ | (dsimp only; omega) | omega)))))).mono ?_
  rintro e w5 ⟨v5, rfl, hR5, hb5⟩
  simp only [Bool.false_eq_true, if_false] at hR5
  obtain ⟨A5, k5, rfl⟩ := Kd.R_slice hR5
  clear hR5
  obtain ⟨hc5, hf5⟩ := vbcell hb5
  have hz5 : w4.heap.size + 1 ≤ w5.heap.size := (by have h_ := hb5.size; (try simp only [World.size_alloc, World.size_setCell, World.size_drew, World.heap_drewN] at h_); omega)
  have hc5_0_0 := fun o => hc5 (w.heap.size) o (by (try simp only [World.size_alloc, World.size_setCell, World.size_drew, World.heap_drewN]); omega)
  have hf5_0_0 := fun o => hf5 (w.heap.size) o (by (try simp only [World.size_alloc, World.size_setCell, World.size_drew, World.heap_drewN]); omega)
  have hc5_0_1 := fun o => hc5 (w.heap.size + 1) o (by (try simp only [World.size_alloc, World.size_setCell, World.size_drew, World.heap_drewN]); omega)
  have hf5_0_1 := fun o => hf5 (w.heap.size + 1) o (by (try simp only [World.size_alloc, World.size_setCell, World.size_drew, World.heap_drewN]); omega)
  have hc5_4_0 := fun o => hc5 (w4.heap.size) o (by (try simp only [World.size_alloc, World.size_setCell, World.size_drew, World.heap_drewN]); omega)
  have hf5_4_0 := fun o => hf5 (w4.heap.size) o (by (try simp only [World.size_alloc, World.size_setCell, World.size_drew, World.heap_drewN]); omega)
  have HB5 : Below w.heap.size w w5 := vbelow_step (by repeat (first | (with_reducible exact Below.refl _ _) | (with_reducible exact HB4) | (with_reducible refine vbelow_alloc ?_ _) | (with_reducible refine vbelow_drew ?_) | (with_reducible refine vbelow_drewN ?_ _) | (with_reducible refine vbelow_set ?_ (by first | exact Nat.le_refl _ | (dsimp only; omega) | omega)))) hb5
  clear hc5 hf5 hb5 HB4
  have hz5_0_0 : w.heap.size < w5.heap.size := (by omega)
  have hz5_0_1 : w.heap.size + 1 < w5.heap.size := (by omega)
  have hz5_4_0 : w4.heap.size < w5.heap.size := (by omega)
  go_wp2_with fail
  refine (rampartref03_Is.calls 3 kd a rt h p true _ HI.out).mono ?_
  rintro e w6 ⟨rfl, hb6⟩
  obtain ⟨hc6, hf6⟩ := vbcell hb6
  have hz6 : w5.heap.size ≤ w6.heap.size := (by have h_ := hb6.size; (try simp only [World.size_alloc, World.size_setCell, World.size_drew, World.heap_drewN] at h_); omega)
  have hc6_0_0 := fun o => hc6 (w.heap.size) o (by (try simp only [World.size_alloc, World.size_setCell, World.size_drew, World.heap_drewN]); omega)
  have hf6_0_0 := fun o => hf6 (w.heap.size) o (by (try simp only [World.size_alloc, World.size_setCell, World.size_drew, World.heap_drewN]); omega)
  have hc6_0_1 := fun o => hc6 (w.heap.size + 1) o (by (try simp only [World.size_alloc, World.size_setCell, World.size_drew, World.heap_drewN]); omega)
  have hf6_0_1 := fun o => hf6 (w.heap.size + 1) o (by (try simp only [World.size_alloc, World.size_setCell, World.size_drew, World.heap_drewN]); omega)
  have hc6_4_0 := fun o => hc6 (w4.heap.size) o (by (try simp only [World.size_alloc, World.size_setCell, World.size_drew, World.heap_drewN]); omega)
  have hf6_4_0 := fun o => hf6 (w4.heap.size) o (by (try simp only [World.size_alloc, World.size_setCell, World.size_drew, World.heap_drewN]); omega)
  have HB6 : Below w.heap.size w w6 := vbelow_step (by repeat (first | (with_reducible exact Below.refl _ _) | (with_reducible exact HB5) | (with_reducible refine vbelow_alloc ?_ _) | (with_reducible refine vbelow_drew ?_) | (with_reducible refine vbelow_drewN ?_ _) | (with_reducible refine vbelow_set ?_ (by first | exact Nat.le_refl _ | (dsimp only; omega) | omega)))) hb6
  clear hc6 hf6 hb6 HB5
  have hz6_0_0 : w.heap.size < w6.heap.size := (by omega)
  have hz6_0_1 : w.heap.size + 1 < w6.heap.size := (by omega)
  have hz6_4_0 : w4.heap.size < w6.heap.size := (by omega)
  go_wp2_with fail
  refine (rampartref03_IsReply.calls cd b g q false _ HJ.out).mono ?_
  rintro e w7 ⟨rfl, hb7⟩
  obtain ⟨hc7, hf7⟩ := vbcell hb7
  have hz7 : w6.heap.size ≤ w7.heap.size := (by have h_ := hb7.size; (try simp only [World.size_alloc, World.size_setCell, World.size_drew, World.heap_drewN] at h_); omega)
  have hc7_0_0 := fun o => hc7 (w.heap.size) o (by (try simp only [World.size_alloc, World.size_setCell, World.size_drew, World.heap_drewN]); omega)
  have hf7_0_0 := fun o => hf7 (w.heap.size) o (by (try simp only [World.size_alloc, World.size_setCell, World.size_drew, World.heap_drewN]); omega)
  have hc7_0_1 := fun o => hc7 (w.heap.size + 1) o (by (try simp only [World.size_alloc, World.size_setCell, World.size_drew, World.heap_drewN]); omega)
  have hf7_0_1 := fun o => hf7 (w.heap.size + 1) o (by (try simp only [World.size_alloc, World.size_setCell, World.size_drew, World.heap_drewN]); omega)
  have hc7_4_0 := fun o => hc7 (w4.heap.size) o (by (try simp only [World.size_alloc, World.size_setCell, World.size_drew, World.heap_drewN]); omega)
  have hf7_4_0 := fun o => hf7 (w4.heap.size) o (by (try simp only [World.size_alloc, World.size_setCell, World.size_drew, World.heap_drewN]); omega)
  have HB7 : Below w.heap.size w w7 := vbelow_step (by repeat (first | (with_reducible exact Below.refl _ _) | (with_reducible exact HB6) | (with_reducible refine vbelow_alloc ?_ _) | (with_reducible refine vbelow_drew ?_) | (with_reducible refine vbelow_drewN ?_ _) | (with_reducible refine vbelow_set ?_ (by first | exact Nat.le_refl _ | (dsimp only; omega) | omega)))) hb7
  clear hc7 hf7 hb7 HB6
  have hz7_0_0 : w.heap.size < w7.heap.size := (by omega)
  have hz7_0_1 : w.heap.size + 1 < w7.heap.size := (by omega)
  have hz7_4_0 : w4.heap.size < w7.heap.size := (by omega)
  go_wp2_with fail
  refine (alive14 _ (HP.out.below (by repeat (first | (with_reducible exact Below.refl _ _) | (with_reducible exact HB7) | (with_reducible refine vbelow_alloc ?_ _) | (with_reducible refine vbelow_drew ?_) | (with_reducible refine vbelow_drewN ?_ _) | (with_reducible refine vbelow_set ?_ (by first | exact Nat.le_refl _ | (dsimp only; omega) | omega)))))).mono ?_
  rintro e w8 ⟨rfl, hb8⟩
  obtain ⟨hc8, hf8⟩ := vbcell hb8
  have hz8 : w7.heap.size ≤ w8.heap.size := (by have h_ := hb8.size; (try simp only [World.size_alloc, World.size_setCell, World.size_drew, World.heap_drewN] at h_); omega)
  have hc8_0_0 := fun o => hc8 (w.heap.size) o (by (try simp only [World.size_alloc, World.size_setCell, World.size_drew, World.heap_drewN]); omega)
  have hf8_0_0 := fun o => hf8 (w.heap.size) o (by (try simp only [World.size_alloc, World.size_setCell, World.size_drew, World.heap_drewN]); omega)
  have hc8_0_1 := fun o => hc8 (w.heap.size + 1) o (by (try simp only [World.size_alloc, World.size_setCell, World.size_drew, World.heap_drewN]); omega)
  have hf8_0_1 := fun o => hf8 (w.heap.size + 1) o (by (try simp only [World.size_alloc, World.size_setCell, World.size_drew, World.heap_drewN]); omega)
  have hc8_4_0 := fun o => hc8 (w4.heap.size) o (by (try simp only [World.size_alloc, World.size_setCell, World.size_drew, World.heap_drewN]); omega)
  have hf8_4_0 := fun o => hf8 (w4.heap.size) o (by (try simp only [World.size_alloc, World.size_setCell, World.size_drew, World.heap_drewN]); omega)
  have HB8 : Below w.heap.size w w8 := vbelow_step (by repeat (first | (with_reducible exact Below.refl _ _) | (with_reducible exact HB7) | (with_reducible refine vbelow_alloc ?_ _) | (with_reducible refine vbelow_drew ?_) | (with_reducible refine vbelow_drewN ?_ _) | (with_reducible refine vbelow_set ?_ (by first | exact Nat.le_refl _ | (dsimp only; omega) | omega)))) hb8
  clear hc8 hf8 hb8 HB7
  have hz8_0_0 : w.heap.size < w8.heap.size := (by omega)
  have hz8_0_1 : w.heap.size + 1 < w8.heap.size := (by omega)
  have hz8_4_0 : w4.heap.size < w8.heap.size := (by omega)
  go_wp2
  go_ret
  exact ⟨rfl, (by repeat (first | (with_reducible exact Below.refl _ _) | (with_reducible exact HB8) | (with_reducible refine vbelow_alloc ?_ _) | (with_reducible refine vbelow_drew ?_) | (with_reducible refine vbelow_drewN ?_ _) | (with_reducible refine vbelow_set ?_ (by first | exact Nat.le_refl _ | (dsimp only; omega) | omega))))⟩

set_option maxHeartbeats 1000000 in
set_option maxRecDepth 100000 in
theorem back9_ny (kd a rt h p cd b g q u : Int) (h0 : 0 ≤ h) (h1 : h < 4294967296) (p0 : 0 ≤ p) (p1 : p < 18446744073709551616) (g0 : 0 ≤ g) (g1 : g < 4294967296) (q0 : 0 ≤ q) (q1 : q < 18446744073709551616) (u0 : 0 ≤ u) (u1 : u < 4294967296) (w : World) (hP : PartsHeld w) (hq : isReq kd a rt h p = false) (hr : isRep cd b g q = true) : Calls Tryd.prog 9 #[.agg #[.int .u8 kd, .int .u8 a, .int .u8 rt, .int .u32 h, .int .u64 p], .agg #[.int .u8 cd, .int .u8 b, .int .u32 g, .int .u64 q], .int .u32 u] w fun e w' => e = .returned (.bool true) ∧ Below w.heap.size w w' := by
  obtain ⟨x, y, z, hu⟩ : ∃ x y z, partsR u = (x, y, z) := ⟨_, _, _, rfl⟩
  have HU := Lib.hid hu
  have HH := Lib.hid (partsBack u x y z u0 u1 hu)
  have U0 := Lib.hid u0
  have U1 := Lib.hid u1
  have HA := Lib.hid (bytes10 kd a rt h p h0 h1)
  have HS := Lib.hid (reply23 cd b g q g0 g1)
  have HI := Lib.hid (is_eq kd a rt h p)
  have HJ := Lib.hid (isReply_eq cd b g q)
  rw [hq] at HA HI
  rw [hr] at HS HJ
  have RB := Lib.hid (parse27_back cd b g q g0 g1 q0 q1 hr)
  have HP := Lib.hid hP
  clear hu hq hr hP h0 h1 p0 p1 g0 g1 q0 q1 u0 u1
  go_enter Tryd.func9, Tryd.ntmps9
  go_wp2_with fail
  refine (parts17 u x y z U0.out U1.out HU.out _).mono ?_
  rintro e w1 ⟨rfl, hb1⟩
  obtain ⟨hc1, hf1⟩ := vbcell hb1
  have hz1 : w.heap.size + 1 + 1 ≤ w1.heap.size := (by have h_ := hb1.size; (try simp only [World.size_alloc, World.size_setCell, World.size_drew, World.heap_drewN] at h_); omega)
  have hc1_0_0 := fun o => hc1 (w.heap.size) o (by (try simp only [World.size_alloc, World.size_setCell, World.size_drew, World.heap_drewN]); omega)
  have hf1_0_0 := fun o => hf1 (w.heap.size) o (by (try simp only [World.size_alloc, World.size_setCell, World.size_drew, World.heap_drewN]); omega)
  have hc1_0_1 := fun o => hc1 (w.heap.size + 1) o (by (try simp only [World.size_alloc, World.size_setCell, World.size_drew, World.heap_drewN]); omega)
  have hf1_0_1 := fun o => hf1 (w.heap.size + 1) o (by (try simp only [World.size_alloc, World.size_setCell, World.size_drew, World.heap_drewN]); omega)
  have HB1 : Below w.heap.size w w1 := vbelow_step (by repeat (first | (with_reducible exact Below.refl _ _) | (with_reducible refine vbelow_alloc ?_ _) | (with_reducible refine vbelow_drew ?_) | (with_reducible refine vbelow_drewN ?_ _) | (with_reducible refine vbelow_set ?_ (by first | exact Nat.le_refl _ | (dsimp only; omega) | omega)))) hb1
  clear hc1 hf1 hb1
  have hz1_0_0 : w.heap.size < w1.heap.size := (by omega)
  have hz1_0_1 : w.heap.size + 1 < w1.heap.size := (by omega)
  go_wp2_with fail
  refine (handle15 x y z u 0 HH.out _).mono ?_
  rintro e w2 ⟨rfl, hb2⟩
  obtain ⟨hc2, hf2⟩ := vbcell hb2
  have hz2 : w1.heap.size ≤ w2.heap.size := (by have h_ := hb2.size; (try simp only [World.size_alloc, World.size_setCell, World.size_drew, World.heap_drewN] at h_); omega)
  have hc2_0_0 := fun o => hc2 (w.heap.size) o (by (try simp only [World.size_alloc, World.size_setCell, World.size_drew, World.heap_drewN]); omega)
  have hf2_0_0 := fun o => hf2 (w.heap.size) o (by (try simp only [World.size_alloc, World.size_setCell, World.size_drew, World.heap_drewN]); omega)
  have hc2_0_1 := fun o => hc2 (w.heap.size + 1) o (by (try simp only [World.size_alloc, World.size_setCell, World.size_drew, World.heap_drewN]); omega)
  have hf2_0_1 := fun o => hf2 (w.heap.size + 1) o (by (try simp only [World.size_alloc, World.size_setCell, World.size_drew, World.heap_drewN]); omega)
  have HB2 : Below w.heap.size w w2 := vbelow_step (by repeat (first | (with_reducible exact Below.refl _ _) | (with_reducible exact HB1) | (with_reducible refine vbelow_alloc ?_ _) | (with_reducible refine vbelow_drew ?_) | (with_reducible refine vbelow_drewN ?_ _) | (with_reducible refine vbelow_set ?_ (by first | exact Nat.le_refl _ | (dsimp only; omega) | omega)))) hb2
  clear hc2 hf2 hb2 HB1
  have hz2_0_0 : w.heap.size < w2.heap.size := (by omega)
  have hz2_0_1 : w.heap.size + 1 < w2.heap.size := (by omega)
  go_wp2_with fail
  refine (HA.out _ (HP.out.below (by repeat (first | (with_reducible exact Below.refl _ _) | (with_reducible exact HB2) | (with_reducible refine vbelow_alloc ?_ _) | (with_reducible refine vbelow_drew ?_) | (with_reducible refine vbelow_drewN ?_ _) | (with_reducible refine vbelow_set ?_ (by first | exact Nat.le_refl _ | (dsimp only; omega) | omega)))))).mono ?_
  rintro e w3 ⟨v3, rfl, hR3, hb3⟩
  simp only [Bool.false_eq_true, if_false] at hR3
  obtain ⟨A3, k3, rfl⟩ := Kd.R_slice hR3
  clear hR3
  obtain ⟨hc3, hf3⟩ := vbcell hb3
  have hz3 : w2.heap.size ≤ w3.heap.size := (by have h_ := hb3.size; (try simp only [World.size_alloc, World.size_setCell, World.size_drew, World.heap_drewN] at h_); omega)
  have hc3_0_0 := fun o => hc3 (w.heap.size) o (by (try simp only [World.size_alloc, World.size_setCell, World.size_drew, World.heap_drewN]); omega)
  have hf3_0_0 := fun o => hf3 (w.heap.size) o (by (try simp only [World.size_alloc, World.size_setCell, World.size_drew, World.heap_drewN]); omega)
  have hc3_0_1 := fun o => hc3 (w.heap.size + 1) o (by (try simp only [World.size_alloc, World.size_setCell, World.size_drew, World.heap_drewN]); omega)
  have hf3_0_1 := fun o => hf3 (w.heap.size + 1) o (by (try simp only [World.size_alloc, World.size_setCell, World.size_drew, World.heap_drewN]); omega)
  have HB3 : Below w.heap.size w w3 := vbelow_step (by repeat (first | (with_reducible exact Below.refl _ _) | (with_reducible exact HB2) | (with_reducible refine vbelow_alloc ?_ _) | (with_reducible refine vbelow_drew ?_) | (with_reducible refine vbelow_drewN ?_ _) | (with_reducible refine vbelow_set ?_ (by first | exact Nat.le_refl _ | (dsimp only; omega) | omega)))) hb3
  clear hc3 hf3 hb3 HB2
  have hz3_0_0 : w.heap.size < w3.heap.size := (by omega)
  have hz3_0_1 : w.heap.size + 1 < w3.heap.size := (by omega)
  go_wp2_with fail
  refine (HS.out _ (HP.out.below (by repeat (first | (with_reducible exact Below.refl _ _) | (with_reducible exact HB3) | (with_reducible refine vbelow_alloc ?_ _) | (with_reducible refine vbelow_drew ?_) | (with_reducible refine vbelow_drewN ?_ _) | (with_reducible refine vbelow_set ?_ (by first | exact Nat.le_refl _ | (dsimp only; omega) | omega)))))).mono ?_
  rintro e w4 ⟨v4, rfl, hR4, hb4⟩
  simp only [if_true] at hR4
  obtain ⟨ad4, k4, rfl, hk4, hC4⟩ := own16 hR4
  have HC4 := Lib.hid hC4
  clear hR4 hC4
  obtain ⟨hc4, hf4⟩ := vbcell hb4
  have hz4 : w3.heap.size ≤ w4.heap.size := (by have h_ := hb4.size; (try simp only [World.size_alloc, World.size_setCell, World.size_drew, World.heap_drewN] at h_); omega)
  have hc4_0_0 := fun o => hc4 (w.heap.size) o (by (try simp only [World.size_alloc, World.size_setCell, World.size_drew, World.heap_drewN]); omega)
  have hf4_0_0 := fun o => hf4 (w.heap.size) o (by (try simp only [World.size_alloc, World.size_setCell, World.size_drew, World.heap_drewN]); omega)
  have hc4_0_1 := fun o => hc4 (w.heap.size + 1) o (by (try simp only [World.size_alloc, World.size_setCell, World.size_drew, World.heap_drewN]); omega)
  have hf4_0_1 := fun o => hf4 (w.heap.size + 1) o (by (try simp only [World.size_alloc, World.size_setCell, World.size_drew, World.heap_drewN]); omega)
  have HB4 : Below w.heap.size w w4 := vbelow_step (by repeat (first | (with_reducible exact Below.refl _ _) | (with_reducible exact HB3) | (with_reducible refine vbelow_alloc ?_ _) | (with_reducible refine vbelow_drew ?_) | (with_reducible refine vbelow_drewN ?_ _) | (with_reducible refine vbelow_set ?_ (by first | exact Nat.le_refl _ | (dsimp only; omega) | omega)))) hb4
  clear hc4 hf4 hb4 HB3
  have hz4_0_0 : w.heap.size < w4.heap.size := (by omega)
  have hz4_0_1 : w.heap.size + 1 < w4.heap.size := (by omega)
  go_wp2_with fail
  refine (RB.out ad4 k4 _ (HP.out.below (by repeat (first | (with_reducible exact Below.refl _ _) | (with_reducible exact HB4) | (with_reducible refine vbelow_alloc ?_ _) | (with_reducible refine vbelow_drew ?_) | (with_reducible refine vbelow_drewN ?_ _) | (with_reducible refine vbelow_set ?_ (by first | exact Nat.le_refl _ | (dsimp only; omega) | omega))))) HC4.out hk4).mono ?_
  rintro e w5 ⟨rfl, hb5⟩
  obtain ⟨hc5, hf5⟩ := vbcell hb5
  have hz5 : w4.heap.size ≤ w5.heap.size := (by have h_ := hb5.size; (try simp only [World.size_alloc, World.size_setCell, World.size_drew, World.heap_drewN] at h_); omega)
  have hc5_0_0 := fun o => hc5 (w.heap.size) o (by (try simp only [World.size_alloc, World.size_setCell, World.size_drew, World.heap_drewN]); omega)
  have hf5_0_0 := fun o => hf5 (w.heap.size) o (by (try simp only [World.size_alloc, World.size_setCell, World.size_drew, World.heap_drewN]); omega)
  have hc5_0_1 := fun o => hc5 (w.heap.size + 1) o (by (try simp only [World.size_alloc, World.size_setCell, World.size_drew, World.heap_drewN]); omega)
  have hf5_0_1 := fun o => hf5 (w.heap.size + 1) o (by (try simp only [World.size_alloc, World.size_setCell, World.size_drew, World.heap_drewN]); omega)
  have HB5 : Below w.heap.size w w5 := vbelow_step (by repeat (first | (with_reducible exact Below.refl _ _) | (with_reducible exact HB4) | (with_reducible refine vbelow_alloc ?_ _) | (with_reducible refine vbelow_drew ?_) | (with_reducible refine vbelow_drewN ?_ _) | (with_reducible refine vbelow_set ?_ (by first | exact Nat.le_refl _ | (dsimp only; omega) | omega)))) hb5
  clear hc5 hf5 hb5 HB4
  have hz5_0_0 : w.heap.size < w5.heap.size := (by omega)
  have hz5_0_1 : w.heap.size + 1 < w5.heap.size := (by omega)
  go_wp2_with fail
  refine (rampartref03_Is.calls 3 kd a rt h p false _ HI.out).mono ?_
  rintro e w6 ⟨rfl, hb6⟩
  obtain ⟨hc6, hf6⟩ := vbcell hb6
  have hz6 : w5.heap.size + 1 ≤ w6.heap.size := (by have h_ := hb6.size; (try simp only [World.size_alloc, World.size_setCell, World.size_drew, World.heap_drewN] at h_); omega)
  have hc6_0_0 := fun o => hc6 (w.heap.size) o (by (try simp only [World.size_alloc, World.size_setCell, World.size_drew, World.heap_drewN]); omega)
  have hf6_0_0 := fun o => hf6 (w.heap.size) o (by (try simp only [World.size_alloc, World.size_setCell, World.size_drew, World.heap_drewN]); omega)
  have hc6_0_1 := fun o => hc6 (w.heap.size + 1) o (by (try simp only [World.size_alloc, World.size_setCell, World.size_drew, World.heap_drewN]); omega)
  have hf6_0_1 := fun o => hf6 (w.heap.size + 1) o (by (try simp only [World.size_alloc, World.size_setCell, World.size_drew, World.heap_drewN]); omega)
  have hc6_5_0 := fun o => hc6 (w5.heap.size) o (by (try simp only [World.size_alloc, World.size_setCell, World.size_drew, World.heap_drewN]); omega)
  have hf6_5_0 := fun o => hf6 (w5.heap.size) o (by (try simp only [World.size_alloc, World.size_setCell, World.size_drew, World.heap_drewN]); omega)
  have HB6 : Below w.heap.size w w6 := vbelow_step (by repeat (first | (with_reducible exact Below.refl _ _) | (with_reducible exact HB5) | (with_reducible refine vbelow_alloc ?_ _) | (with_reducible refine vbelow_drew ?_) | (with_reducible refine vbelow_drewN ?_ _) | (with_reducible refine vbelow_set ?_ (by first | exact Nat.le_refl _ | (dsimp only; omega) | omega)))) hb6
  clear hc6 hf6 hb6 HB5
  have hz6_0_0 : w.heap.size < w6.heap.size := (by omega)
  have hz6_0_1 : w.heap.size + 1 < w6.heap.size := (by omega)
  have hz6_5_0 : w5.heap.size < w6.heap.size := (by omega)
  go_wp2_with fail
  refine (rampartref03_IsReply.calls cd b g q true _ HJ.out).mono ?_
  rintro e w7 ⟨rfl, hb7⟩
  obtain ⟨hc7, hf7⟩ := vbcell hb7
  have hz7 : w6.heap.size ≤ w7.heap.size := (by have h_ := hb7.size; (try simp only [World.size_alloc, World.size_setCell, World.size_drew, World.heap_drewN] at h_); omega)
  have hc7_0_0 := fun o => hc7 (w.heap.size) o (by (try simp only [World.size_alloc, World.size_setCell, World.size_drew, World.heap_drewN]); omega)
  have hf7_0_0 := fun o => hf7 (w.heap.size) o (by (try simp only [World.size_alloc, World.size_setCell, World.size_drew, World.heap_drewN]); omega)
  have hc7_0_1 := fun o => hc7 (w.heap.size + 1) o (by (try simp only [World.size_alloc, World.size_setCell, World.size_drew, World.heap_drewN]); omega)
  have hf7_0_1 := fun o => hf7 (w.heap.size + 1) o (by (try simp only [World.size_alloc, World.size_setCell, World.size_drew, World.heap_drewN]); omega)
  have hc7_5_0 := fun o => hc7 (w5.heap.size) o (by (try simp only [World.size_alloc, World.size_setCell, World.size_drew, World.heap_drewN]); omega)
  have hf7_5_0 := fun o => hf7 (w5.heap.size) o (by (try simp only [World.size_alloc, World.size_setCell, World.size_drew, World.heap_drewN]); omega)
  have HB7 : Below w.heap.size w w7 := vbelow_step (by repeat (first | (with_reducible exact Below.refl _ _) | (with_reducible exact HB6) | (with_reducible refine vbelow_alloc ?_ _) | (with_reducible refine vbelow_drew ?_) | (with_reducible refine vbelow_drewN ?_ _) | (with_reducible refine vbelow_set ?_ (by first | exact Nat.le_refl _ | (dsimp only; omega) | omega)))) hb7
  clear hc7 hf7 hb7 HB6
  have hz7_0_0 : w.heap.size < w7.heap.size := (by omega)
  have hz7_0_1 : w.heap.size + 1 < w7.heap.size := (by omega)
  have hz7_5_0 : w5.heap.size < w7.heap.size := (by omega)
  go_wp2_with fail
  refine (alive14 _ (HP.out.below (by repeat (first | (with_reducible exact Below.refl _ _) | (with_reducible exact HB7) | (with_reducible refine vbelow_alloc ?_ _) | (with_reducible refine vbelow_drew ?_) | (with_reducible refine vbelow_drewN ?_ _) | (with_reducible refine vbelow_set ?_ (by first | exact Nat.le_refl _ | (dsimp only; omega) | omega)))))).mono ?_
  rintro e w8 ⟨rfl, hb8⟩
  obtain ⟨hc8, hf8⟩ := vbcell hb8
  have hz8 : w7.heap.size ≤ w8.heap.size := (by have h_ := hb8.size; (try simp only [World.size_alloc, World.size_setCell, World.size_drew, World.heap_drewN] at h_); omega)
  have hc8_0_0 := fun o => hc8 (w.heap.size) o (by (try simp only [World.size_alloc, World.size_setCell, World.size_drew, World.heap_drewN]); omega)
  have hf8_0_0 := fun o => hf8 (w.heap.size) o (by (try simp only [World.size_alloc, World.size_setCell, World.size_drew, World.heap_drewN]); omega)
  have hc8_0_1 := fun o => hc8 (w.heap.size + 1) o (by (try simp only [World.size_alloc, World.size_setCell, World.size_drew, World.heap_drewN]); omega)
  have hf8_0_1 := fun o => hf8 (w.heap.size + 1) o (by (try simp only [World.size_alloc, World.size_setCell, World.size_drew, World.heap_drewN]); omega)
  have hc8_5_0 := fun o => hc8 (w5.heap.size) o (by (try simp only [World.size_alloc, World.size_setCell, World.size_drew, World.heap_drewN]); omega)
  have hf8_5_0 := fun o => hf8 (w5.heap.size) o (by (try simp only [World.size_alloc, World.size_setCell, World.size_drew, World.heap_drewN]); omega)
  have HB8 : Below w.heap.size w w8 := vbelow_step (by repeat (first | (with_reducible exact Below.refl _ _) | (with_reducible exact HB7) | (with_reducible refine vbelow_alloc ?_ _) | (with_reducible refine vbelow_drew ?_) | (with_reducible refine vbelow_drewN ?_ _) | (with_reducible refine vbelow_set ?_ (by first | exact Nat.le_refl _ | (dsimp only; omega) | omega)))) hb8
  clear hc8 hf8 hb8 HB7
  have hz8_0_0 : w.heap.size < w8.heap.size := (by omega)
  have hz8_0_1 : w.heap.size + 1 < w8.heap.size := (by omega)
  have hz8_5_0 : w5.heap.size < w8.heap.size := (by omega)
  go_wp2
  go_ret
  exact ⟨rfl, (by repeat (first | (with_reducible exact Below.refl _ _) | (with_reducible exact HB8) | (with_reducible refine vbelow_alloc ?_ _) | (with_reducible refine vbelow_drew ?_) | (with_reducible refine vbelow_drewN ?_ _) | (with_reducible refine vbelow_set ?_ (by first | exact Nat.le_refl _ | (dsimp only; omega) | omega))))⟩

set_option maxHeartbeats 1000000 in
set_option maxRecDepth 100000 in
theorem back9_nn (kd a rt h p cd b g q u : Int) (h0 : 0 ≤ h) (h1 : h < 4294967296) (p0 : 0 ≤ p) (p1 : p < 18446744073709551616) (g0 : 0 ≤ g) (g1 : g < 4294967296) (q0 : 0 ≤ q) (q1 : q < 18446744073709551616) (u0 : 0 ≤ u) (u1 : u < 4294967296) (w : World) (hP : PartsHeld w) (hq : isReq kd a rt h p = false) (hr : isRep cd b g q = false) : Calls Tryd.prog 9 #[.agg #[.int .u8 kd, .int .u8 a, .int .u8 rt, .int .u32 h, .int .u64 p], .agg #[.int .u8 cd, .int .u8 b, .int .u32 g, .int .u64 q], .int .u32 u] w fun e w' => e = .returned (.bool true) ∧ Below w.heap.size w w' := by
  obtain ⟨x, y, z, hu⟩ : ∃ x y z, partsR u = (x, y, z) := ⟨_, _, _, rfl⟩
  have HU := Lib.hid hu
  have HH := Lib.hid (partsBack u x y z u0 u1 hu)
  have U0 := Lib.hid u0
  have U1 := Lib.hid u1
  have HA := Lib.hid (bytes10 kd a rt h p h0 h1)
  have HS := Lib.hid (reply23 cd b g q g0 g1)
  have HI := Lib.hid (is_eq kd a rt h p)
  have HJ := Lib.hid (isReply_eq cd b g q)
  rw [hq] at HA HI
  rw [hr] at HS HJ
  have HP := Lib.hid hP
  clear hu hq hr hP h0 h1 p0 p1 g0 g1 q0 q1 u0 u1
  go_enter Tryd.func9, Tryd.ntmps9
  go_wp2_with fail
  refine (parts17 u x y z U0.out U1.out HU.out _).mono ?_
  rintro e w1 ⟨rfl, hb1⟩
  obtain ⟨hc1, hf1⟩ := vbcell hb1
  have hz1 : w.heap.size + 1 + 1 ≤ w1.heap.size := (by have h_ := hb1.size; (try simp only [World.size_alloc, World.size_setCell, World.size_drew, World.heap_drewN] at h_); omega)
  have hc1_0_0 := fun o => hc1 (w.heap.size) o (by (try simp only [World.size_alloc, World.size_setCell, World.size_drew, World.heap_drewN]); omega)
  have hf1_0_0 := fun o => hf1 (w.heap.size) o (by (try simp only [World.size_alloc, World.size_setCell, World.size_drew, World.heap_drewN]); omega)
  have hc1_0_1 := fun o => hc1 (w.heap.size + 1) o (by (try simp only [World.size_alloc, World.size_setCell, World.size_drew, World.heap_drewN]); omega)
  have hf1_0_1 := fun o => hf1 (w.heap.size + 1) o (by (try simp only [World.size_alloc, World.size_setCell, World.size_drew, World.heap_drewN]); omega)
  have HB1 : Below w.heap.size w w1 := vbelow_step (by repeat (first | (with_reducible exact Below.refl _ _) | (with_reducible refine vbelow_alloc ?_ _) | (with_reducible refine vbelow_drew ?_) | (with_reducible refine vbelow_drewN ?_ _) | (with_reducible refine vbelow_set ?_ (by first | exact Nat.le_refl _ | (dsimp only; omega) | omega)))) hb1
  clear hc1 hf1 hb1
  have hz1_0_0 : w.heap.size < w1.heap.size := (by omega)
  have hz1_0_1 : w.heap.size + 1 < w1.heap.size := (by omega)
  go_wp2_with fail
  refine (handle15 x y z u 0 HH.out _).mono ?_
  rintro e w2 ⟨rfl, hb2⟩
  obtain ⟨hc2, hf2⟩ := vbcell hb2
  have hz2 : w1.heap.size ≤ w2.heap.size := (by have h_ := hb2.size; (try simp only [World.size_alloc, World.size_setCell, World.size_drew, World.heap_drewN] at h_); omega)
  have hc2_0_0 := fun o => hc2 (w.heap.size) o (by (try simp only [World.size_alloc, World.size_setCell, World.size_drew, World.heap_drewN]); omega)
  have hf2_0_0 := fun o => hf2 (w.heap.size) o (by (try simp only [World.size_alloc, World.size_setCell, World.size_drew, World.heap_drewN]); omega)
  have hc2_0_1 := fun o => hc2 (w.heap.size + 1) o (by (try simp only [World.size_alloc, World.size_setCell, World.size_drew, World.heap_drewN]); omega)
  have hf2_0_1 := fun o => hf2 (w.heap.size + 1) o (by (try simp only [World.size_alloc, World.size_setCell, World.size_drew, World.heap_drewN]); omega)
  have HB2 : Below w.heap.size w w2 := vbelow_step (by repeat (first | (with_reducible exact Below.refl _ _) | (with_reducible exact HB1) | (with_reducible refine vbelow_alloc ?_ _) | (with_reducible refine vbelow_drew ?_) | (with_reducible refine vbelow_drewN ?_ _) | (with_reducible refine vbelow_set ?_ (by first | exact Nat.le_refl _ | (dsimp only; omega) | omega)))) hb2
  clear hc2 hf2 hb2 HB1
  have hz2_0_0 : w.heap.size < w2.heap.size := (by omega)
  have hz2_0_1 : w.heap.size + 1 < w2.heap.size := (by omega)
  go_wp2_with fail
  refine (HA.out _ (HP.out.below (by repeat (first | (with_reducible exact Below.refl _ _) | (with_reducible exact HB2) | (with_reducible refine vbelow_alloc ?_ _) | (with_reducible refine vbelow_drew ?_) | (with_reducible refine vbelow_drewN ?_ _) | (with_reducible refine vbelow_set ?_ (by first | exact Nat.le_refl _ | (dsimp only; omega) | omega)))))).mono ?_
  rintro e w3 ⟨v3, rfl, hR3, hb3⟩
  simp only [Bool.false_eq_true, if_false] at hR3
  obtain ⟨A3, k3, rfl⟩ := Kd.R_slice hR3
  clear hR3
  obtain ⟨hc3, hf3⟩ := vbcell hb3
  have hz3 : w2.heap.size ≤ w3.heap.size := (by have h_ := hb3.size; (try simp only [World.size_alloc, World.size_setCell, World.size_drew, World.heap_drewN] at h_); omega)
  have hc3_0_0 := fun o => hc3 (w.heap.size) o (by (try simp only [World.size_alloc, World.size_setCell, World.size_drew, World.heap_drewN]); omega)
  have hf3_0_0 := fun o => hf3 (w.heap.size) o (by (try simp only [World.size_alloc, World.size_setCell, World.size_drew, World.heap_drewN]); omega)
  have hc3_0_1 := fun o => hc3 (w.heap.size + 1) o (by (try simp only [World.size_alloc, World.size_setCell, World.size_drew, World.heap_drewN]); omega)
  have hf3_0_1 := fun o => hf3 (w.heap.size + 1) o (by (try simp only [World.size_alloc, World.size_setCell, World.size_drew, World.heap_drewN]); omega)
  have HB3 : Below w.heap.size w w3 := vbelow_step (by repeat (first | (with_reducible exact Below.refl _ _) | (with_reducible exact HB2) | (with_reducible refine vbelow_alloc ?_ _) | (with_reducible refine vbelow_drew ?_) | (with_reducible refine vbelow_drewN ?_ _) | (with_reducible refine vbelow_set ?_ (by first | exact Nat.le_refl _ | (dsimp only; omega) | omega)))) hb3
  clear hc3 hf3 hb3 HB2
  have hz3_0_0 : w.heap.size < w3.heap.size := (by omega)
  have hz3_0_1 : w.heap.size + 1 < w3.heap.size := (by omega)
  go_wp2_with fail
  refine (HS.out _ (HP.out.below (by repeat (first | (with_reducible exact Below.refl _ _) | (with_reducible exact HB3) | (with_reducible refine vbelow_alloc ?_ _) | (with_reducible refine vbelow_drew ?_) | (with_reducible refine vbelow_drewN ?_ _) | (with_reducible refine vbelow_set ?_ (by first | exact Nat.le_refl _ | (dsimp only; omega) | omega)))))).mono ?_
  rintro e w4 ⟨v4, rfl, hR4, hb4⟩
  simp only [Bool.false_eq_true, if_false] at hR4
  obtain ⟨A4, k4, rfl⟩ := Kd.R_slice hR4
  clear hR4
  obtain ⟨hc4, hf4⟩ := vbcell hb4
  have hz4 : w3.heap.size ≤ w4.heap.size := (by have h_ := hb4.size; (try simp only [World.size_alloc, World.size_setCell, World.size_drew, World.heap_drewN] at h_); omega)
  have hc4_0_0 := fun o => hc4 (w.heap.size) o (by (try simp only [World.size_alloc, World.size_setCell, World.size_drew, World.heap_drewN]); omega)
  have hf4_0_0 := fun o => hf4 (w.heap.size) o (by (try simp only [World.size_alloc, World.size_setCell, World.size_drew, World.heap_drewN]); omega)
  have hc4_0_1 := fun o => hc4 (w.heap.size + 1) o (by (try simp only [World.size_alloc, World.size_setCell, World.size_drew, World.heap_drewN]); omega)
  have hf4_0_1 := fun o => hf4 (w.heap.size + 1) o (by (try simp only [World.size_alloc, World.size_setCell, World.size_drew, World.heap_drewN]); omega)
  have HB4 : Below w.heap.size w w4 := vbelow_step (by repeat (first | (with_reducible exact Below.refl _ _) | (with_reducible exact HB3) | (with_reducible refine vbelow_alloc ?_ _) | (with_reducible refine vbelow_drew ?_) | (with_reducible refine vbelow_drewN ?_ _) | (with_reducible refine vbelow_set ?_ (by first | exact Nat.le_refl _ | (dsimp only; omega) | omega)))) hb4
  clear hc4 hf4 hb4 HB3
  have hz4_0_0 : w.heap.size < w4.heap.size := (by omega)
  have hz4_0_1 : w.heap.size + 1 < w4.heap.size := (by omega)
  go_wp2_with fail
  refine (rampartref03_Is.calls 3 kd a rt h p false _ HI.out).mono ?_
  rintro e w5 ⟨rfl, hb5⟩
  obtain ⟨hc5, hf5⟩ := vbcell hb5
  have hz5 : w4.heap.size ≤ w5.heap.size := (by have h_ := hb5.size; (try simp only [World.size_alloc, World.size_setCell, World.size_drew, World.heap_drewN] at h_); omega)
  have hc5_0_0 := fun o => hc5 (w.heap.size) o (by (try simp only [World.size_alloc, World.size_setCell, World.size_drew, World.heap_drewN]); omega)
  have hf5_0_0 := fun o => hf5 (w.heap.size) o (by (try simp only [World.size_alloc, World.size_setCell, World.size_drew, World.heap_drewN]); omega)
  have hc5_0_1 := fun o => hc5 (w.heap.size + 1) o (by (try simp only [World.size_alloc, World.size_setCell, World.size_drew, World.heap_drewN]); omega)
  have hf5_0_1 := fun o => hf5 (w.heap.size + 1) o (by (try simp only [World.size_alloc, World.size_setCell, World.size_drew, World.heap_drewN]); omega)
  have HB5 : Below w.heap.size w w5 := vbelow_step (by repeat (first | (with_reducible exact Below.refl _ _) | (with_reducible exact HB4) | (with_reducible refine vbelow_alloc ?_ _) | (with_reducible refine vbelow_drew ?_) | (with_reducible refine vbelow_drewN ?_ _) | (with_reducible refine vbelow_set ?_ (by first | exact Nat.le_refl _ | (dsimp only; omega) | omega)))) hb5
  clear hc5 hf5 hb5 HB4
  have hz5_0_0 : w.heap.size < w5.heap.size := (by omega)
  have hz5_0_1 : w.heap.size + 1 < w5.heap.size := (by omega)
  go_wp2_with fail
  refine (rampartref03_IsReply.calls cd b g q false _ HJ.out).mono ?_
  rintro e w6 ⟨rfl, hb6⟩
  obtain ⟨hc6, hf6⟩ := vbcell hb6
  have hz6 : w5.heap.size ≤ w6.heap.size := (by have h_ := hb6.size; (try simp only [World.size_alloc, World.size_setCell, World.size_drew, World.heap_drewN] at h_); omega)
  have hc6_0_0 := fun o => hc6 (w.heap.size) o (by (try simp only [World.size_alloc, World.size_setCell, World.size_drew, World.heap_drewN]); omega)
  have hf6_0_0 := fun o => hf6 (w.heap.size) o (by (try simp only [World.size_alloc, World.size_setCell, World.size_drew, World.heap_drewN]); omega)
  have hc6_0_1 := fun o => hc6 (w.heap.size + 1) o (by (try simp only [World.size_alloc, World.size_setCell, World.size_drew, World.heap_drewN]); omega)
  have hf6_0_1 := fun o => hf6 (w.heap.size + 1) o (by (try simp only [World.size_alloc, World.size_setCell, World.size_drew, World.heap_drewN]); omega)
  have HB6 : Below w.heap.size w w6 := vbelow_step (by repeat (first | (with_reducible exact Below.refl _ _) | (with_reducible exact HB5) | (with_reducible refine vbelow_alloc ?_ _) | (with_reducible refine vbelow_drew ?_) | (with_reducible refine vbelow_drewN ?_ _) | (with_reducible refine vbelow_set ?_ (by first | exact Nat.le_refl _ | (dsimp only; omega) | omega)))) hb6
  clear hc6 hf6 hb6 HB5
  have hz6_0_0 : w.heap.size < w6.heap.size := (by omega)
  have hz6_0_1 : w.heap.size + 1 < w6.heap.size := (by omega)
  go_wp2_with fail
  refine (alive14 _ (HP.out.below (by repeat (first | (with_reducible exact Below.refl _ _) | (with_reducible exact HB6) | (with_reducible refine vbelow_alloc ?_ _) | (with_reducible refine vbelow_drew ?_) | (with_reducible refine vbelow_drewN ?_ _) | (with_reducible refine vbelow_set ?_ (by first | exact Nat.le_refl _ | (dsimp only; omega) | omega)))))).mono ?_
  rintro e w7 ⟨rfl, hb7⟩
  obtain ⟨hc7, hf7⟩ := vbcell hb7
  have hz7 : w6.heap.size ≤ w7.heap.size := (by have h_ := hb7.size; (try simp only [World.size_alloc, World.size_setCell, World.size_drew, World.heap_drewN] at h_); omega)
  have hc7_0_0 := fun o => hc7 (w.heap.size) o (by (try simp only [World.size_alloc, World.size_setCell, World.size_drew, World.heap_drewN]); omega)
  have hf7_0_0 := fun o => hf7 (w.heap.size) o (by (try simp only [World.size_alloc, World.size_setCell, World.size_drew, World.heap_drewN]); omega)
  have hc7_0_1 := fun o => hc7 (w.heap.size + 1) o (by (try simp only [World.size_alloc, World.size_setCell, World.size_drew, World.heap_drewN]); omega)
  have hf7_0_1 := fun o => hf7 (w.heap.size + 1) o (by (try simp only [World.size_alloc, World.size_setCell, World.size_drew, World.heap_drewN]); omega)
  have HB7 : Below w.heap.size w w7 := vbelow_step (by repeat (first | (with_reducible exact Below.refl _ _) | (with_reducible exact HB6) | (with_reducible refine vbelow_alloc ?_ _) | (with_reducible refine vbelow_drew ?_) | (with_reducible refine vbelow_drewN ?_ _) | (with_reducible refine vbelow_set ?_ (by first | exact Nat.le_refl _ | (dsimp only; omega) | omega)))) hb7
  clear hc7 hf7 hb7 HB6
  have hz7_0_0 : w.heap.size < w7.heap.size := (by omega)
  have hz7_0_1 : w.heap.size + 1 < w7.heap.size := (by omega)
  go_wp2
  go_ret
  exact ⟨rfl, (by repeat (first | (with_reducible exact Below.refl _ _) | (with_reducible exact HB7) | (with_reducible refine vbelow_alloc ?_ _) | (with_reducible refine vbelow_drew ?_) | (with_reducible refine vbelow_drewN ?_ _) | (with_reducible refine vbelow_set ?_ (by first | exact Nat.le_refl _ | (dsimp only; omega) | omega))))⟩

theorem back9 (kd a rt h p cd b g q u : Int) (h0 : 0 ≤ h) (h1 : h < 4294967296) (p0 : 0 ≤ p) (p1 : p < 18446744073709551616) (g0 : 0 ≤ g) (g1 : g < 4294967296) (q0 : 0 ≤ q) (q1 : q < 18446744073709551616) (u0 : 0 ≤ u) (u1 : u < 4294967296) (w : World) (hP : PartsHeld w) : Calls Tryd.prog 9 #[.agg #[.int .u8 kd, .int .u8 a, .int .u8 rt, .int .u32 h, .int .u64 p], .agg #[.int .u8 cd, .int .u8 b, .int .u32 g, .int .u64 q], .int .u32 u] w fun e w' => e = .returned (.bool true) ∧ Below w.heap.size w w' := by
  cases hq : isReq kd a rt h p with
  | true =>
    cases hr : isRep cd b g q with
    | true => exact back9_yy kd a rt h p cd b g q u h0 h1 p0 p1 g0 g1 q0 q1 u0 u1 w hP hq hr
    | false => exact back9_yn kd a rt h p cd b g q u h0 h1 p0 p1 g0 g1 q0 q1 u0 u1 w hP hq hr
  | false =>
    cases hr : isRep cd b g q with
    | true => exact back9_ny kd a rt h p cd b g q u h0 h1 p0 p1 g0 g1 q0 q1 u0 u1 w hP hq hr
    | false => exact back9_nn kd a rt h p cd b g q u h0 h1 p0 p1 g0 g1 q0 q1 u0 u1 w hP hq hr
end Go.Proofs.YtbbnaagfnpeloaaDoor.Q
