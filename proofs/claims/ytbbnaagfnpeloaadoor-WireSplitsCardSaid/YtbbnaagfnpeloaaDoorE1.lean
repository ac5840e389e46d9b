/- Layer 3: the bytes that the program lays, for whatever numbers, where the two package-level parts hold what they are laid with. -/
import Derived.Test.YtbbnaagfnpeloaaDoorP1
import Derived.Test.YtbbnaagfnpeloaaDoorV
namespace Go.Proofs.YtbbnaagfnpeloaaDoor.Q
open Go.RowKit Go.Proofs.YtbbnaagfnpeloaaDoorW.PrintWords Go.Proofs.YtbbnaagfnpeloaaDoorW.PrintMore
set_option linter.unusedVariables false
set_option linter.unusedSimpArgs false

/-- The two package-level parts hold 4, 4 and 8, 8. -/
structure PartsHeld (w : World) : Prop where
  h0 : w.cell? ⟨0, 0, none⟩ = some (.int .i64 4)
  h1 : w.cell? ⟨0, 1, none⟩ = some (.int .i64 4)
  p0 : w.cell? ⟨1, 0, none⟩ = some (.int .i64 8)
  p1 : w.cell? ⟨1, 1, none⟩ = some (.int .i64 8)
theorem PartsHeld.below {w w1 : World} (h : PartsHeld w) (hb : Below w.heap.size w w1) : PartsHeld w1 := ⟨vcell hb h.h0, vcell hb h.h1, vcell hb h.p0, vcell hb h.p1⟩
theorem PartsHeld.drew {w : World} (h : PartsHeld w) : PartsHeld w.drew := ⟨h.h0, h.h1, h.p0, h.p1⟩
/-- A row of bytes of one's own. -/
def OwnBytes (w w' : World) (v : Value) (xs : List Int) : Prop := Kd.R (Kd.int .u8) 5 w' w.heap.size (fun _ => True) v xs
theorem make16 (w : World) : (Instr.makeSlice 27 (.int .i64 16) (.int .i64 16)).run Tryd.prog w = .ok (.slice (some ⟨w.heap.size, 0, none⟩) 16 16) (w.alloc (.cells #[.int .u8 0, .int .u8 0, .int .u8 0, .int .u8 0, .int .u8 0, .int .u8 0, .int .u8 0, .int .u8 0, .int .u8 0, .int .u8 0, .int .u8 0, .int .u8 0, .int .u8 0, .int .u8 0, .int .u8 0, .int .u8 0] 5)) := by kernel_rfl

set_option maxHeartbeats 1000000 in
set_option maxRecDepth 100000 in
theorem laid30 (a b c h p : Int) (h0 : 0 ≤ h) (h1 : h < 4294967296) (w : World) (hP : PartsHeld w) :
    Calls Tryd.prog 30 #[.int .u8 a, .int .u8 b, .int .u8 c, .int .u32 h, .int .u64 p] w fun e w' => ∃ v, e = .returned v ∧ OwnBytes w w' v (bytes16 a b c h p) ∧ Below w.heap.size w w' := by
  have hmk := make16
  obtain ⟨g0, g1, g2, g3⟩ := hP
  have b1 : 1 < w.heap.size := World.block_lt_of_cell? w ⟨1, 0, none⟩ g2
  have b0 : 0 < w.heap.size := by omega
  have b0' : ¬ (w.heap = #[]) := fun h_ => by rw [h_] at b0; exact absurd b0 (by decide)
  go_enter Tryd.func30, Tryd.ntmps30
  go_wp2_with fail
  have ho : (w.alloc (.cells #[.int .u8 a, .int .u8 b, .int .u8 c, .int .u8 0, .int .u8 0, .int .u8 0, .int .u8 0, .int .u8 0, .int .u8 0, .int .u8 0, .int .u8 0, .int .u8 0, .int .u8 0, .int .u8 0, .int .u8 0, .int .u8 0] 5)).ownsRow w.heap.size 5 1 (.slice (some ⟨w.heap.size, 0, none⟩) 16 16) 16 (nums .u8 [a, b, c, 0, 0, 0, 0, 0, 0, 0, 0, 0, 0, 0, 0, 0]) := own_lit w w.heap.size 5 .u8 [a, b, c, 0, 0, 0, 0, 0, 0, 0, 0, 0, 0, 0, 0, 0] (Nat.le_refl _) (by simp)
  have hR : Kd.R (Kd.int .u8) 5 (w.alloc (.cells #[.int .u8 a, .int .u8 b, .int .u8 c, .int .u8 0, .int .u8 0, .int .u8 0, .int .u8 0, .int .u8 0, .int .u8 0, .int .u8 0, .int .u8 0, .int .u8 0, .int .u8 0, .int .u8 0, .int .u8 0, .int .u8 0] 5)) w.heap.size (fun _ => True) (.slice (some ⟨w.heap.size, 0, none⟩) 16 16) [a, b, c, 0, 0, 0, 0, 0, 0, 0, 0, 0, 0, 0, 0, 0] := Kd.R_of_own ho (fun _ _ => trivial)
  have HR := Lib.hid hR
  clear hR ho
  refine (wire_part_put.calls 5 4 4 (fun _ => True) _ _ _ _ w _ (vbelow_alloc (Below.refl _ _) _) HR.out (put4 a b c _)).mono ?_
  rintro e w1 ⟨rfl, hR1, hB1, hK1⟩
  have g2' : w1.cell? ⟨1, 0, none⟩ = some (.int .i64 8) := (hB1.cell (p := ⟨1, 0, none⟩) b1).trans g2
  have g3' : w1.cell? ⟨1, 1, none⟩ = some (.int .i64 8) := (hB1.cell (p := ⟨1, 1, none⟩) b1).trans g3
  have HR1 := Lib.hid hR1
  clear hR1 hK1 HR
  go_wp2_with fail
  refine (wire_part_put.calls 9 8 8 _ _ _ _ _ w w1 hB1 HR1.out (put8 a b c 0 _ _ _ _ p)).mono ?_
  rintro e w2 ⟨rfl, hR2, hB2, hK2⟩
  have HR2 := Lib.hid hR2
  clear hR2 hK2 HR1
  go_wp2
  go_ret
  refine ⟨_, rfl, ?_, hB2⟩
  exact Kd.R_mono HR2.out (fun _ _ => trivial)

end Go.Proofs.YtbbnaagfnpeloaaDoor.Q
