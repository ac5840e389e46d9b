/- Layer 3: handles and their parts, by the program and by the reference; the walk of the law WireHandles. -/
import Derived.Test.YtbbnaagfnpeloaaDoorE6
namespace Go.Proofs.YtbbnaagfnpeloaaDoor.Q
open Go.RowKit Go.Proofs.YtbbnaagfnpeloaaDoorW.PrintWords Go.Proofs.YtbbnaagfnpeloaaDoorW.PrintMore
set_option linter.unusedVariables false
set_option linter.unusedSimpArgs false

theorem handle15 (a b c r s : Int) (h : handleR a b c = (r, s)) (w : World) : Calls Tryd.prog 15 #[.int .i64 a, .int .i64 b, .int .i64 c] w fun e w' => e = .returned (.tuple #[.int .u32 r, .int .i64 s]) ∧ Below w.heap.size w w' :=
  (wire_Handle.calls a b c r s w ((handle_eq a b c).trans (congrArg some h))).mono fun _ _ h => ⟨h.1, h.2.below⟩
theorem handle16 (a b c r s : Int) (h : handleR a b c = (r, s)) (w : World) : Calls Tryd.prog 16 #[.int .i64 a, .int .i64 b, .int .i64 c] w fun e w' => e = .returned (.tuple #[.int .u32 r, .int .i64 s]) ∧ Below w.heap.size w w' :=
  (rampartref03_Handle.calls a b c r s w ((refHandle_eq a b c).trans (congrArg some h))).mono fun _ _ h => ⟨h.1, h.2.below⟩
def partsR (h : Int) : Int × Int × Int := (h % 256, h / 256 % 256, h / 65536)
theorem parts17 (h x y z : Int) (h0 : 0 ≤ h) (h1 : h < 4294967296) (e : partsR h = (x, y, z)) (w : World) : Calls Tryd.prog 17 #[.int .u32 h] w fun e w' => e = .returned (.tuple #[.int .i64 x, .int .i64 y, .int .i64 z]) ∧ Below w.heap.size w w' :=
  (wire_Parts.calls h x y z w ((parts_eq h h0 h1).trans (congrArg some e))).mono fun _ _ h => ⟨h.1, h.2.below⟩
theorem parts18 (h x y z : Int) (h0 : 0 ≤ h) (h1 : h < 4294967296) (e : partsR h = (x, y, z)) (w : World) : Calls Tryd.prog 18 #[.int .u32 h] w fun e w' => e = .returned (.tuple #[.int .i64 x, .int .i64 y, .int .i64 z]) ∧ Below w.heap.size w w' :=
  (rampartref03_Parts.calls h x y z w ((refParts_eq h h0 h1).trans (congrArg some e))).mono fun _ _ h => ⟨h.1, h.2.below⟩
set_option maxHeartbeats 1000000 in
set_option maxRecDepth 100000 in
theorem handles4 (a b c h : Int) (h0 : 0 ≤ h) (h1 : h < 4294967296) (w : World) (hP : PartsHeld w) : Calls Tryd.prog 4 #[.int .i64 a, .int .i64 b, .int .i64 c, .int .u32 h] w fun e w' => e = .returned (.bool true) ∧ Below w.heap.size w w' := by
  obtain ⟨r, s, hr⟩ : ∃ r s, handleR a b c = (r, s) := ⟨_, _, rfl⟩
  obtain ⟨x, y, z, hp⟩ : ∃ x y z, partsR h = (x, y, z) := ⟨_, _, _, rfl⟩
  have HR := Lib.hid hr
  have HQ := Lib.hid hp
  have H0 := Lib.hid h0
  have H1 := Lib.hid h1
  have HP := Lib.hid hP
  clear hr hp h0 h1 hP
  go_enter Tryd.func4, Tryd.ntmps4
  go_wp2_with fail
  refine (handle15 a b c r s HR.out _).mono ?_
  rintro e w1 ⟨rfl, hb1⟩
  obtain ⟨hc1, hf1⟩ := vbcell hb1
  have hz1 : w.heap.size ≤ w1.heap.size := (by have h_ := hb1.size; (try simp only [World.size_alloc, World.size_setCell, World.size_drew, World.heap_drewN] at h_); omega)
  have HB1 : Below w.heap.size w w1 := vbelow_step (by repeat (first | (with_reducible exact Below.refl _ _) | (with_reducible refine vbelow_alloc ?_ _) | (with_reducible refine vbelow_drew ?_) | (with_reducible refine vbelow_drewN ?_ _) | (with_reducible refine vbelow_set ?_ (by first | exact Nat.le_refl _ | (dsimp only; omega) | omega)))) hb1
  clear hc1 hf1 hb1
  go_wp2_with fail
  refine (handle16 a b c r s HR.out _).mono ?_
  rintro e w2 ⟨rfl, hb2⟩
  obtain ⟨hc2, hf2⟩ := vbcell hb2
  have hz2 : w1.heap.size ≤ w2.heap.size := (by have h_ := hb2.size; (try simp only [World.size_alloc, World.size_setCell, World.size_drew, World.heap_drewN] at h_); omega)
  have HB2 : Below w.heap.size w w2 := vbelow_step (by repeat (first | (with_reducible exact Below.refl _ _) | (with_reducible exact HB1) | (with_reducible refine vbelow_alloc ?_ _) | (with_reducible refine vbelow_drew ?_) | (with_reducible refine vbelow_drewN ?_ _) | (with_reducible refine vbelow_set ?_ (by first | exact Nat.le_refl _ | (dsimp only; omega) | omega)))) hb2
  clear hc2 hf2 hb2 HB1
  go_wp2_with fail
  refine (parts17 h x y z H0.out H1.out HQ.out _).mono ?_
  rintro e w3 ⟨rfl, hb3⟩
  obtain ⟨hc3, hf3⟩ := vbcell hb3
  have hz3 : w2.heap.size ≤ w3.heap.size := (by have h_ := hb3.size; (try simp only [World.size_alloc, World.size_setCell, World.size_drew, World.heap_drewN] at h_); omega)
  have HB3 : Below w.heap.size w w3 := vbelow_step (by repeat (first | (with_reducible exact Below.refl _ _) | (with_reducible exact HB2) | (with_reducible refine vbelow_alloc ?_ _) | (with_reducible refine vbelow_drew ?_) | (with_reducible refine vbelow_drewN ?_ _) | (with_reducible refine vbelow_set ?_ (by first | exact Nat.le_refl _ | (dsimp only; omega) | omega)))) hb3
  clear hc3 hf3 hb3 HB2
  go_wp2_with fail
  refine (parts18 h x y z H0.out H1.out HQ.out _).mono ?_
  rintro e w4 ⟨rfl, hb4⟩
  obtain ⟨hc4, hf4⟩ := vbcell hb4
  have hz4 : w3.heap.size ≤ w4.heap.size := (by have h_ := hb4.size; (try simp only [World.size_alloc, World.size_setCell, World.size_drew, World.heap_drewN] at h_); omega)
  have HB4 : Below w.heap.size w w4 := vbelow_step (by repeat (first | (with_reducible exact Below.refl _ _) | (with_reducible exact HB3) | (with_reducible refine vbelow_alloc ?_ _) | (with_reducible refine vbelow_drew ?_) | (with_reducible refine vbelow_drewN ?_ _) | (with_reducible refine vbelow_set ?_ (by first | exact Nat.le_refl _ | (dsimp only; omega) | omega)))) hb4
  clear hc4 hf4 hb4 HB3
  go_wp2_with fail
  refine (alive14 _ (HP.out.below HB4)).mono ?_
  rintro e w5 ⟨rfl, hb5⟩
  obtain ⟨hc5, hf5⟩ := vbcell hb5
  have hz5 : w4.heap.size ≤ w5.heap.size := (by have h_ := hb5.size; (try simp only [World.size_alloc, World.size_setCell, World.size_drew, World.heap_drewN] at h_); omega)
  have HB5 : Below w.heap.size w w5 := vbelow_step (by repeat (first | (with_reducible exact Below.refl _ _) | (with_reducible exact HB4) | (with_reducible refine vbelow_alloc ?_ _) | (with_reducible refine vbelow_drew ?_) | (with_reducible refine vbelow_drewN ?_ _) | (with_reducible refine vbelow_set ?_ (by first | exact Nat.le_refl _ | (dsimp only; omega) | omega)))) hb5
  clear hc5 hf5 hb5 HB4
  go_wp2
  go_ret
  exact ⟨rfl, (by repeat (first | (with_reducible exact Below.refl _ _) | (with_reducible exact HB5) | (with_reducible refine vbelow_alloc ?_ _) | (with_reducible refine vbelow_drew ?_) | (with_reducible refine vbelow_drewN ?_ _) | (with_reducible refine vbelow_set ?_ (by first | exact Nat.le_refl _ | (dsimp only; omega) | omega))))⟩

end Go.Proofs.YtbbnaagfnpeloaaDoor.Q
