/- Layer 3: the walk of the law WireParses; the law, for whatever bytes. -/
import Derived.Test.YtbbnaagfnpeloaaDoorE12
import Derived.Test.YtbbnaagfnpeloaaDoorE15
import Derived.Test.YtbbnaagfnpeloaaDoorE16
namespace Go.Proofs.YtbbnaagfnpeloaaDoor.Q
open Go.RowKit Go.Proofs.YtbbnaagfnpeloaaDoorW.PrintWords Go.Proofs.YtbbnaagfnpeloaaDoorW.PrintMore
set_option linter.unusedVariables false
set_option linter.unusedSimpArgs false

set_option maxHeartbeats 4000000 in
set_option maxRecDepth 100000 in
theorem parses7w (A : Option Addr) (n m c : Nat) (kd a rt h p e1 cd b g q e2 : Int) (w : World) (hP : PartsHeld w) (hK : ∀ W : World, Calls Tryd.prog 19 #[.slice A n c] W fun e w' => e = .returned (.slice A m c) ∧ Below W.heap.size W w') (hQ : ∀ W : World, Below w.heap.size w W → Calls Tryd.prog 25 #[.slice A m c] W fun e w' => e = .returned (.tuple #[.agg #[.int .u8 kd, .int .u8 a, .int .u8 rt, .int .u32 h, .int .u64 p], .int .i64 e1]) ∧ Below W.heap.size W w') (hQ2 : ∀ W : World, Below w.heap.size w W → Calls Tryd.prog 26 #[.slice A m c] W fun e w' => e = .returned (.tuple #[.agg #[.int .u8 kd, .int .u8 a, .int .u8 rt, .int .u32 h, .int .u64 p], .int .i64 e1]) ∧ Below W.heap.size W w') (hR : ∀ W : World, Below w.heap.size w W → Calls Tryd.prog 27 #[.slice A m c] W fun e w' => e = .returned (.tuple #[.agg #[.int .u8 cd, .int .u8 b, .int .u32 g, .int .u64 q], .int .i64 e2]) ∧ Below W.heap.size W w') (hR2 : ∀ W : World, Below w.heap.size w W → Calls Tryd.prog 28 #[.slice A m c] W fun e w' => e = .returned (.tuple #[.agg #[.int .u8 cd, .int .u8 b, .int .u32 g, .int .u64 q], .int .i64 e2]) ∧ Below W.heap.size W w') : Calls Tryd.prog 7 #[.slice A n c] w fun e w' => e = .returned (.bool true) ∧ Below w.heap.size w w' := by
  have HK := Lib.hid hK
  have HP := Lib.hid hP
  have HQ := Lib.hid hQ
  have HQ2 := Lib.hid hQ2
  have HR := Lib.hid hR
  have HR2 := Lib.hid hR2
  clear hK hP hQ hQ2 hR hR2
  go_enter Tryd.func7, Tryd.ntmps7
  go_wp2_with fail
  refine (HK.out _).mono ?_
  rintro e w1 ⟨rfl, hb1⟩
  obtain ⟨hc1, hf1⟩ := vbcell hb1
  have hz1 : w.heap.size ≤ w1.heap.size := (by have h_ := hb1.size; (try simp only [World.size_alloc, World.size_setCell, World.size_drew, World.heap_drewN] at h_); omega)
  have HB1 : Below w.heap.size w w1 := vbelow_step (by repeat (first | (with_reducible exact Below.refl _ _) | (with_reducible refine vbelow_alloc ?_ _) | (with_reducible refine vbelow_drew ?_) | (with_reducible refine vbelow_drewN ?_ _) | (with_reducible refine vbelow_set ?_ (by first | exact Nat.le_refl _ | (dsimp only; omega) | omega)))) hb1
  clear hc1 hf1 hb1
  go_wp2_with fail
  refine (HQ.out _ (by repeat (first | (with_reducible exact Below.refl _ _) | (with_reducible exact HB1) | (with_reducible refine vbelow_alloc ?_ _) | (with_reducible refine vbelow_drew ?_) | (with_reducible refine vbelow_drewN ?_ _) | (with_reducible refine vbelow_set ?_ (by first | exact Nat.le_refl _ | (dsimp only; omega) | omega))))).mono ?_
  rintro e w2 ⟨rfl, hb2⟩
  obtain ⟨hc2, hf2⟩ := vbcell hb2
  have hz2 : w1.heap.size ≤ w2.heap.size := (by have h_ := hb2.size; (try simp only [World.size_alloc, World.size_setCell, World.size_drew, World.heap_drewN] at h_); omega)
  have HB2 : Below w.heap.size w w2 := vbelow_step (by repeat (first | (with_reducible exact Below.refl _ _) | (with_reducible exact HB1) | (with_reducible refine vbelow_alloc ?_ _) | (with_reducible refine vbelow_drew ?_) | (with_reducible refine vbelow_drewN ?_ _) | (with_reducible refine vbelow_set ?_ (by first | exact Nat.le_refl _ | (dsimp only; omega) | omega)))) hb2
  clear hc2 hf2 hb2 HB1
  go_wp2_with fail
  refine (HQ2.out _ (by repeat (first | (with_reducible exact Below.refl _ _) | (with_reducible exact HB2) | (with_reducible refine vbelow_alloc ?_ _) | (with_reducible refine vbelow_drew ?_) | (with_reducible refine vbelow_drewN ?_ _) | (with_reducible refine vbelow_set ?_ (by first | exact Nat.le_refl _ | (dsimp only; omega) | omega))))).mono ?_
  rintro e w3 ⟨rfl, hb3⟩
  obtain ⟨hc3, hf3⟩ := vbcell hb3
  have hz3 : w2.heap.size + 1 ≤ w3.heap.size := (by have h_ := hb3.size; (try simp only [World.size_alloc, World.size_setCell, World.size_drew, World.heap_drewN] at h_); omega)
  have hc3_2_0 := fun o => hc3 (w2.heap.size) o (by (try simp only [World.size_alloc, World.size_setCell, World.size_drew, World.heap_drewN]); omega)
  have hf3_2_0 := fun o => hf3 (w2.heap.size) o (by (try simp only [World.size_alloc, World.size_setCell, World.size_drew, World.heap_drewN]); omega)
  have HB3 : Below w.heap.size w w3 := vbelow_step (by repeat (first | (with_reducible exact Below.refl _ _) | (with_reducible exact HB2) | (with_reducible refine vbelow_alloc ?_ _) | (with_reducible refine vbelow_drew ?_) | (with_reducible refine vbelow_drewN ?_ _) | (with_reducible refine vbelow_set ?_ (by first | exact Nat.le_refl _ | (dsimp only; omega) | omega)))) hb3
  clear hc3 hf3 hb3 HB2
  have hz3_2_0 : w2.heap.size < w3.heap.size := (by omega)
  go_wp2_with fail
  refine (HR.out _ (by repeat (first | (with_reducible exact Below.refl _ _) | (with_reducible exact HB3) | (with_reducible refine vbelow_alloc ?_ _) | (with_reducible refine vbelow_drew ?_) | (with_reducible refine vbelow_drewN ?_ _) | (with_reducible refine vbelow_set ?_ (by first | exact Nat.le_refl _ | (dsimp only; omega) | omega))))).mono ?_
  rintro e w4 ⟨rfl, hb4⟩
  obtain ⟨hc4, hf4⟩ := vbcell hb4
  have hz4 : w3.heap.size + 1 ≤ w4.heap.size := (by have h_ := hb4.size; (try simp only [World.size_alloc, World.size_setCell, World.size_drew, World.heap_drewN] at h_); omega)
  have hc4_2_0 := fun o => hc4 (w2.heap.size) o (by (try simp only [World.size_alloc, World.size_setCell, World.size_drew, World.heap_drewN]); omega)
  have hf4_2_0 := fun o => hf4 (w2.heap.size) o (by (try simp only [World.size_alloc, World.size_setCell, World.size_drew, World.heap_drewN]); omega)
  have hc4_3_0 := fun o => hc4 (w3.heap.size) o (by (try simp only [World.size_alloc, World.size_setCell, World.size_drew, World.heap_drewN]); omega)
  have hf4_3_0 := fun o => hf4 (w3.heap.size) o (by (try simp only [World.size_alloc, World.size_setCell, World.size_drew, World.heap_drewN]); omega)
  have HB4 : Below w.heap.size w w4 := vbelow_step (by repeat (first | (with_reducible exact Below.refl _ _) | (with_reducible exact HB3) | (with_reducible refine vbelow_alloc ?_ _) | (with_reducible refine vbelow_drew ?_) | (with_reducible refine vbelow_drewN ?_ _) | (with_reducible refine vbelow_set ?_ (by first | exact Nat.le_refl _ | (dsimp only; omega) | omega)))) hb4
  clear hc4 hf4 hb4 HB3
  have hz4_2_0 : w2.heap.size < w4.heap.size := (by omega)
  have hz4_3_0 : w3.heap.size < w4.heap.size := (by omega)
  go_wp2_with fail
  refine (HR2.out _ (by repeat (first | (with_reducible exact Below.refl _ _) | (with_reducible exact HB4) | (with_reducible refine vbelow_alloc ?_ _) | (with_reducible refine vbelow_drew ?_) | (with_reducible refine vbelow_drewN ?_ _) | (with_reducible refine vbelow_set ?_ (by first | exact Nat.le_refl _ | (dsimp only; omega) | omega))))).mono ?_
  rintro e w5 ⟨rfl, hb5⟩
  obtain ⟨hc5, hf5⟩ := vbcell hb5
  have hz5 : w4.heap.size + 1 ≤ w5.heap.size := (by have h_ := hb5.size; (try simp only [World.size_alloc, World.size_setCell, World.size_drew, World.heap_drewN] at h_); omega)
  have hc5_2_0 := fun o => hc5 (w2.heap.size) o (by (try simp only [World.size_alloc, World.size_setCell, World.size_drew, World.heap_drewN]); omega)
  have hf5_2_0 := fun o => hf5 (w2.heap.size) o (by (try simp only [World.size_alloc, World.size_setCell, World.size_drew, World.heap_drewN]); omega)
  have hc5_3_0 := fun o => hc5 (w3.heap.size) o (by (try simp only [World.size_alloc, World.size_setCell, World.size_drew, World.heap_drewN]); omega)
  have hf5_3_0 := fun o => hf5 (w3.heap.size) o (by (try simp only [World.size_alloc, World.size_setCell, World.size_drew, World.heap_drewN]); omega)
  have hc5_4_0 := fun o => hc5 (w4.heap.size) o (by (try simp only [World.size_alloc, World.size_setCell, World.size_drew, World.heap_drewN]); omega)
  have hf5_4_0 := fun o => hf5 (w4.heap.size) o (by (try simp only [World.size_alloc, World.size_setCell, World.size_drew, World.heap_drewN]); omega)
  have HB5 : Below w.heap.size w w5 := vbelow_step (by repeat (first | (with_reducible exact Below.refl _ _) | (with_reducible exact HB4) | (with_reducible refine vbelow_alloc ?_ _) | (with_reducible refine vbelow_drew ?_) | (with_reducible refine vbelow_drewN ?_ _) | (with_reducible refine vbelow_set ?_ (by first | exact Nat.le_refl _ | (dsimp only; omega) | omega)))) hb5
  clear hc5 hf5 hb5 HB4
  have hz5_2_0 : w2.heap.size < w5.heap.size := (by omega)
  have hz5_3_0 : w3.heap.size < w5.heap.size := (by omega)
  have hz5_4_0 : w4.heap.size < w5.heap.size := (by omega)
  go_wp2_with fail
  refine (alive14 _ (HP.out.below (by repeat (first | (with_reducible exact Below.refl _ _) | (with_reducible exact HB5) | (with_reducible refine vbelow_alloc ?_ _) | (with_reducible refine vbelow_drew ?_) | (with_reducible refine vbelow_drewN ?_ _) | (with_reducible refine vbelow_set ?_ (by first | exact Nat.le_refl _ | (dsimp only; omega) | omega)))))).mono ?_
  rintro e w6 ⟨rfl, hb6⟩
  obtain ⟨hc6, hf6⟩ := vbcell hb6
  have hz6 : w5.heap.size + 1 ≤ w6.heap.size := (by have h_ := hb6.size; (try simp only [World.size_alloc, World.size_setCell, World.size_drew, World.heap_drewN] at h_); omega)
  have hc6_2_0 := fun o => hc6 (w2.heap.size) o (by (try simp only [World.size_alloc, World.size_setCell, World.size_drew, World.heap_drewN]); omega)
  have hf6_2_0 := fun o => hf6 (w2.heap.size) o (by (try simp only [World.size_alloc, World.size_setCell, World.size_drew, World.heap_drewN]); omega)
  have hc6_3_0 := fun o => hc6 (w3.heap.size) o (by (try simp only [World.size_alloc, World.size_setCell, World.size_drew, World.heap_drewN]); omega)
  have hf6_3_0 := fun o => hf6 (w3.heap.size) o (by (try simp only [World.size_alloc, World.size_setCell, World.size_drew, World.heap_drewN]); omega)
  have hc6_4_0 := fun o => hc6 (w4.heap.size) o (by (try simp only [World.size_alloc, World.size_setCell, World.size_drew, World.heap_drewN]); omega)
  have hf6_4_0 := fun o => hf6 (w4.heap.size) o (by (try simp only [World.size_alloc, World.size_setCell, World.size_drew, World.heap_drewN]); omega)
  have hc6_5_0 := fun o => hc6 (w5.heap.size) o (by (try simp only [World.size_alloc, World.size_setCell, World.size_drew, World.heap_drewN]); omega)
  have hf6_5_0 := fun o => hf6 (w5.heap.size) o (by (try simp only [World.size_alloc, World.size_setCell, World.size_drew, World.heap_drewN]); omega)
  have HB6 : Below w.heap.size w w6 := vbelow_step (by repeat (first | (with_reducible exact Below.refl _ _) | (with_reducible exact HB5) | (with_reducible refine vbelow_alloc ?_ _) | (with_reducible refine vbelow_drew ?_) | (with_reducible refine vbelow_drewN ?_ _) | (with_reducible refine vbelow_set ?_ (by first | exact Nat.le_refl _ | (dsimp only; omega) | omega)))) hb6
  clear hc6 hf6 hb6 HB5
  have hz6_2_0 : w2.heap.size < w6.heap.size := (by omega)
  have hz6_3_0 : w3.heap.size < w6.heap.size := (by omega)
  have hz6_4_0 : w4.heap.size < w6.heap.size := (by omega)
  have hz6_5_0 : w5.heap.size < w6.heap.size := (by omega)
  go_wp2
  go_ret
  exact ⟨rfl, (by repeat (first | (with_reducible exact Below.refl _ _) | (with_reducible exact HB6) | (with_reducible refine vbelow_alloc ?_ _) | (with_reducible refine vbelow_drew ?_) | (with_reducible refine vbelow_drewN ?_ _) | (with_reducible refine vbelow_set ?_ (by first | exact Nat.le_refl _ | (dsimp only; omega) | omega))))⟩

theorem req_same (A : Option Addr) (c : Nat) (x0 x1 x2 x3 x4 x5 x6 x7 x8 x9 x10 x11 x12 x13 x14 x15 : Int) (b0 : 0 ≤ x0 ∧ x0 < 256) (b1 : 0 ≤ x1 ∧ x1 < 256) (b2 : 0 ≤ x2 ∧ x2 < 256) (b3 : 0 ≤ x3 ∧ x3 < 256) (b4 : 0 ≤ x4 ∧ x4 < 256) (b5 : 0 ≤ x5 ∧ x5 < 256) (b6 : 0 ≤ x6 ∧ x6 < 256) (b7 : 0 ≤ x7 ∧ x7 < 256) (b8 : 0 ≤ x8 ∧ x8 < 256) (b9 : 0 ≤ x9 ∧ x9 < 256) (b10 : 0 ≤ x10 ∧ x10 < 256) (b11 : 0 ≤ x11 ∧ x11 < 256) (b12 : 0 ≤ x12 ∧ x12 < 256) (b13 : 0 ≤ x13 ∧ x13 < 256) (b14 : 0 ≤ x14 ∧ x14 < 256) (b15 : 0 ≤ x15 ∧ x15 < 256) (w : World) (hP : PartsHeld w) (hC : (Kd.int .u8).C w A 16 [x0, x1, x2, x3, x4, x5, x6, x7, x8, x9, x10, x11, x12, x13, x14, x15]) (hc : 16 ≤ c) :
    ∃ kd a rt h p e1 : Int, (∀ W : World, Below w.heap.size w W → Calls Tryd.prog 25 #[.slice A 16 c] W fun e w' => e = .returned (.tuple #[.agg #[.int .u8 kd, .int .u8 a, .int .u8 rt, .int .u32 h, .int .u64 p], .int .i64 e1]) ∧ Below W.heap.size W w') ∧ (∀ W : World, Below w.heap.size w W → Calls Tryd.prog 26 #[.slice A 16 c] W fun e w' => e = .returned (.tuple #[.agg #[.int .u8 kd, .int .u8 a, .int .u8 rt, .int .u32 h, .int .u64 p], .int .i64 e1]) ∧ Below W.heap.size W w') := by
  cases hq : isReq x0 x1 x2 (num4 x4 x5 x6 x7) (num8 x8 x9 x10 x11 x12 x13 x14 x15) with
  | false =>
    cases h3 : (x3 != 0) with
    | true => exact ⟨_, _, _, _, _, _, fun W hW => parse25_mark A c x0 x1 x2 x3 x4 x5 x6 x7 x8 x9 x10 x11 x12 x13 x14 x15 W (Kd.C_below hC hW) hc h3, fun W hW => ref26_mark3 A c x0 x1 x2 x3 x4 x5 x6 x7 x8 x9 x10 x11 x12 x13 x14 x15 b4.1 b4.2 b5.1 b5.2 b6.1 b6.2 b7.1 b7.2 b8.1 b8.2 b9.1 b9.2 b10.1 b10.2 b11.1 b11.2 b12.1 b12.2 b13.1 b13.2 b14.1 b14.2 b15.1 b15.2 W (Kd.C_below hC hW) hc h3 false hq⟩
    | false => exact ⟨0, 0, 0, 0, 0, 30, fun W hW => parse25_16 A c x0 x1 x2 x3 x4 x5 x6 x7 x8 x9 x10 x11 x12 x13 x14 x15 b4.1 b4.2 b5.1 b5.2 b6.1 b6.2 b7.1 b7.2 b8.1 b8.2 b9.1 b9.2 b10.1 b10.2 b11.1 b11.2 b12.1 b12.2 b13.1 b13.2 b14.1 b14.2 b15.1 b15.2 W (hP.below hW) (Kd.C_below hC hW) hc h3 false hq, fun W hW => ref26_16 A c x0 x1 x2 x3 x4 x5 x6 x7 x8 x9 x10 x11 x12 x13 x14 x15 b4.1 b4.2 b5.1 b5.2 b6.1 b6.2 b7.1 b7.2 b8.1 b8.2 b9.1 b9.2 b10.1 b10.2 b11.1 b11.2 b12.1 b12.2 b13.1 b13.2 b14.1 b14.2 b15.1 b15.2 W (Kd.C_below hC hW) hc h3 false hq⟩
  | true =>
    cases h3 : (x3 != 0) with
    | true => exact ⟨_, _, _, _, _, _, fun W hW => parse25_mark A c x0 x1 x2 x3 x4 x5 x6 x7 x8 x9 x10 x11 x12 x13 x14 x15 W (Kd.C_below hC hW) hc h3, fun W hW => ref26_mark3 A c x0 x1 x2 x3 x4 x5 x6 x7 x8 x9 x10 x11 x12 x13 x14 x15 b4.1 b4.2 b5.1 b5.2 b6.1 b6.2 b7.1 b7.2 b8.1 b8.2 b9.1 b9.2 b10.1 b10.2 b11.1 b11.2 b12.1 b12.2 b13.1 b13.2 b14.1 b14.2 b15.1 b15.2 W (Kd.C_below hC hW) hc h3 true hq⟩
    | false => exact ⟨x0, x1, x2, (num4 x4 x5 x6 x7), (num8 x8 x9 x10 x11 x12 x13 x14 x15), 0, fun W hW => parse25_16 A c x0 x1 x2 x3 x4 x5 x6 x7 x8 x9 x10 x11 x12 x13 x14 x15 b4.1 b4.2 b5.1 b5.2 b6.1 b6.2 b7.1 b7.2 b8.1 b8.2 b9.1 b9.2 b10.1 b10.2 b11.1 b11.2 b12.1 b12.2 b13.1 b13.2 b14.1 b14.2 b15.1 b15.2 W (hP.below hW) (Kd.C_below hC hW) hc h3 true hq, fun W hW => ref26_16 A c x0 x1 x2 x3 x4 x5 x6 x7 x8 x9 x10 x11 x12 x13 x14 x15 b4.1 b4.2 b5.1 b5.2 b6.1 b6.2 b7.1 b7.2 b8.1 b8.2 b9.1 b9.2 b10.1 b10.2 b11.1 b11.2 b12.1 b12.2 b13.1 b13.2 b14.1 b14.2 b15.1 b15.2 W (Kd.C_below hC hW) hc h3 true hq⟩
theorem rep_same (A : Option Addr) (c : Nat) (x0 x1 x2 x3 x4 x5 x6 x7 x8 x9 x10 x11 x12 x13 x14 x15 : Int) (b0 : 0 ≤ x0 ∧ x0 < 256) (b1 : 0 ≤ x1 ∧ x1 < 256) (b2 : 0 ≤ x2 ∧ x2 < 256) (b3 : 0 ≤ x3 ∧ x3 < 256) (b4 : 0 ≤ x4 ∧ x4 < 256) (b5 : 0 ≤ x5 ∧ x5 < 256) (b6 : 0 ≤ x6 ∧ x6 < 256) (b7 : 0 ≤ x7 ∧ x7 < 256) (b8 : 0 ≤ x8 ∧ x8 < 256) (b9 : 0 ≤ x9 ∧ x9 < 256) (b10 : 0 ≤ x10 ∧ x10 < 256) (b11 : 0 ≤ x11 ∧ x11 < 256) (b12 : 0 ≤ x12 ∧ x12 < 256) (b13 : 0 ≤ x13 ∧ x13 < 256) (b14 : 0 ≤ x14 ∧ x14 < 256) (b15 : 0 ≤ x15 ∧ x15 < 256) (w : World) (hP : PartsHeld w) (hC : (Kd.int .u8).C w A 16 [x0, x1, x2, x3, x4, x5, x6, x7, x8, x9, x10, x11, x12, x13, x14, x15]) (hc : 16 ≤ c) :
    ∃ cd b g q e2 : Int, (∀ W : World, Below w.heap.size w W → Calls Tryd.prog 27 #[.slice A 16 c] W fun e w' => e = .returned (.tuple #[.agg #[.int .u8 cd, .int .u8 b, .int .u32 g, .int .u64 q], .int .i64 e2]) ∧ Below W.heap.size W w') ∧ (∀ W : World, Below w.heap.size w W → Calls Tryd.prog 28 #[.slice A 16 c] W fun e w' => e = .returned (.tuple #[.agg #[.int .u8 cd, .int .u8 b, .int .u32 g, .int .u64 q], .int .i64 e2]) ∧ Below W.heap.size W w') := by
  cases h2 : (x2 != 0) with
  | true => exact ⟨_, _, _, _, _, fun W hW => parse27_mark2 A c x0 x1 x2 x3 x4 x5 x6 x7 x8 x9 x10 x11 x12 x13 x14 x15 W (Kd.C_below hC hW) hc h2, fun W hW => ref28_mark2 A c x0 x1 x2 x3 x4 x5 x6 x7 x8 x9 x10 x11 x12 x13 x14 x15 b4.1 b4.2 b5.1 b5.2 b6.1 b6.2 b7.1 b7.2 b8.1 b8.2 b9.1 b9.2 b10.1 b10.2 b11.1 b11.2 b12.1 b12.2 b13.1 b13.2 b14.1 b14.2 b15.1 b15.2 W (Kd.C_below hC hW) hc h2 _ rfl⟩
  | false =>
    cases h3 : (x3 != 0) with
    | true => exact ⟨_, _, _, _, _, fun W hW => parse27_mark3 A c x0 x1 x2 x3 x4 x5 x6 x7 x8 x9 x10 x11 x12 x13 x14 x15 W (Kd.C_below hC hW) hc h2 h3, fun W hW => ref28_mark3 A c x0 x1 x2 x3 x4 x5 x6 x7 x8 x9 x10 x11 x12 x13 x14 x15 b4.1 b4.2 b5.1 b5.2 b6.1 b6.2 b7.1 b7.2 b8.1 b8.2 b9.1 b9.2 b10.1 b10.2 b11.1 b11.2 b12.1 b12.2 b13.1 b13.2 b14.1 b14.2 b15.1 b15.2 W (Kd.C_below hC hW) hc h2 h3 _ rfl⟩
    | false =>
      cases hq : isRep x0 x1 (num4 x4 x5 x6 x7) (num8 x8 x9 x10 x11 x12 x13 x14 x15) with
      | false => exact ⟨0, 0, 0, 0, 30, fun W hW => parse27_16 A c x0 x1 x2 x3 x4 x5 x6 x7 x8 x9 x10 x11 x12 x13 x14 x15 b4.1 b4.2 b5.1 b5.2 b6.1 b6.2 b7.1 b7.2 b8.1 b8.2 b9.1 b9.2 b10.1 b10.2 b11.1 b11.2 b12.1 b12.2 b13.1 b13.2 b14.1 b14.2 b15.1 b15.2 W (hP.below hW) (Kd.C_below hC hW) hc h2 h3 false hq, fun W hW => ref28_16 A c x0 x1 x2 x3 x4 x5 x6 x7 x8 x9 x10 x11 x12 x13 x14 x15 b4.1 b4.2 b5.1 b5.2 b6.1 b6.2 b7.1 b7.2 b8.1 b8.2 b9.1 b9.2 b10.1 b10.2 b11.1 b11.2 b12.1 b12.2 b13.1 b13.2 b14.1 b14.2 b15.1 b15.2 W (Kd.C_below hC hW) hc h2 h3 false hq⟩
      | true => exact ⟨x0, x1, (num4 x4 x5 x6 x7), (num8 x8 x9 x10 x11 x12 x13 x14 x15), 0, fun W hW => parse27_16 A c x0 x1 x2 x3 x4 x5 x6 x7 x8 x9 x10 x11 x12 x13 x14 x15 b4.1 b4.2 b5.1 b5.2 b6.1 b6.2 b7.1 b7.2 b8.1 b8.2 b9.1 b9.2 b10.1 b10.2 b11.1 b11.2 b12.1 b12.2 b13.1 b13.2 b14.1 b14.2 b15.1 b15.2 W (hP.below hW) (Kd.C_below hC hW) hc h2 h3 true hq, fun W hW => ref28_16 A c x0 x1 x2 x3 x4 x5 x6 x7 x8 x9 x10 x11 x12 x13 x14 x15 b4.1 b4.2 b5.1 b5.2 b6.1 b6.2 b7.1 b7.2 b8.1 b8.2 b9.1 b9.2 b10.1 b10.2 b11.1 b11.2 b12.1 b12.2 b13.1 b13.2 b14.1 b14.2 b15.1 b15.2 W (Kd.C_below hC hW) hc h2 h3 true hq⟩
theorem parses7 (A : Option Addr) (n c : Nat) (xs : List Int) (hc : n ≤ c) (w : World) (hP : PartsHeld w) (hC : (Kd.int .u8).C w A n xs) (hx : ∀ x ∈ xs, 0 ≤ x ∧ x < 256) : Calls Tryd.prog 7 #[.slice A n c] w fun e w' => e = .returned (.bool true) ∧ Below w.heap.size w w' := by
  obtain ⟨m, ys, hmc, hm4, hC', hy, hK⟩ := cut19 A n c xs hc w hC hx
  by_cases h16 : m = 16
  · subst h16
    obtain ⟨x0, x1, x2, x3, x4, x5, x6, x7, x8, x9, x10, x11, x12, x13, x14, x15, rfl⟩ := list16 ys (C_len hC')
    simp only [List.mem_cons, List.not_mem_nil, or_false, forall_eq_or_imp, forall_eq] at hy
    obtain ⟨b0, b1, b2, b3, b4, b5, b6, b7, b8, b9, b10, b11, b12, b13, b14, b15⟩ := hy
    obtain ⟨kd, a, rt, h, p, e1, hQ, hQ2⟩ := req_same A c x0 x1 x2 x3 x4 x5 x6 x7 x8 x9 x10 x11 x12 x13 x14 x15 b0 b1 b2 b3 b4 b5 b6 b7 b8 b9 b10 b11 b12 b13 b14 b15 w hP hC' hmc
    obtain ⟨cd, b, g, q, e2, hR, hR2⟩ := rep_same A c x0 x1 x2 x3 x4 x5 x6 x7 x8 x9 x10 x11 x12 x13 x14 x15 b0 b1 b2 b3 b4 b5 b6 b7 b8 b9 b10 b11 b12 b13 b14 b15 w hP hC' hmc
    exact parses7w A n 16 c kd a rt h p e1 cd b g q e2 w hP hK hQ hQ2 hR hR2
  · exact parses7w A n m c _ _ _ _ _ _ _ _ _ _ _ w hP hK (fun W _ => parse25_bad A m c h16 (by omega) W) (fun W _ => ref26_bad A m c h16 (by omega) W) (fun W _ => parse27_bad A m c h16 (by omega) W) (fun W _ => ref28_bad A m c h16 (by omega) W)

end Go.Proofs.YtbbnaagfnpeloaaDoor.Q
