/- Layer 3: the example of the statements. -/
import Derived.Test.YtbbnaagfnpeloaaDoorE5
import Derived.Test.YtbbnaagfnpeloaaDoorE3
import Derived.Test.YtbbnaagfnpeloaaDoorQx4
import Derived.Test.YtbbnaagfnpeloaaDoorP4
namespace Go.Proofs.YtbbnaagfnpeloaaDoor.Q
open Go.RowKit Go.Proofs.YtbbnaagfnpeloaaDoorW.PrintWords Go.Proofs.YtbbnaagfnpeloaaDoorW.PrintMore
set_option linter.unusedVariables false
set_option linter.unusedSimpArgs false

theorem aliveBytes : bytes16 3 0 0 65793 2 = [3, 0, 0, 0, 1, 1, 1, 0, 2, 0, 0, 0, 0, 0, 0, 0] := by decide
theorem aliveStr : strOfNums [3, 0, 0, 0, 1, 1, 1, 0, 2, 0, 0, 0, 0, 0, 0, 0] = { data := #[3, 0, 0, 0, 1, 1, 1, 0, 2, 0, 0, 0, 0, 0, 0, 0] } := by kernel_rfl
theorem aliveParse (ad : Addr) (c : Nat) (w : World) (hP : PartsHeld w) (hC : (Kd.int .u8).C w (some ad) 16 [3, 0, 0, 0, 1, 1, 1, 0, 2, 0, 0, 0, 0, 0, 0, 0]) (hc : 16 ≤ c) : Calls Tryd.prog 25 #[.slice (some ad) 16 c] w fun e w' => e = .returned (.tuple #[.agg #[.int .u8 3, .int .u8 0, .int .u8 0, .int .u32 65793, .int .u64 2], .int .i64 0]) ∧ Below w.heap.size w w' := by
  have h := parse25_16 (some ad) c 3 0 0 0 1 1 1 0 2 0 0 0 0 0 0 0 (by decide) (by decide) (by decide) (by decide) (by decide) (by decide) (by decide) (by decide) (by decide) (by decide) (by decide) (by decide) (by decide) (by decide) (by decide) (by decide) (by decide) (by decide) (by decide) (by decide) (by decide) (by decide) (by decide) (by decide)  w hP hC hc (by decide) true (by decide)
  have e4 : num4 1 1 1 0 = 65793 := by decide
  have e8 : num8 2 0 0 0 0 0 0 0 = 2 := by decide
  rw [e4, e8] at h
  exact h
theorem aliveParts (w : World) : Calls Tryd.prog 17 #[.int .u32 65793] w fun e w' => e = .returned (.tuple #[.int .i64 1, .int .i64 1, .int .i64 1]) ∧ Below w.heap.size w w' :=
  (wire_Parts.calls 65793 1 1 1 w ((parts_eq 65793 (by decide) (by decide)).trans (by decide))).mono fun _ _ h => ⟨h.1, h.2.below⟩

set_option maxHeartbeats 1000000 in
set_option maxRecDepth 100000 in
theorem alive14 (w : World) (hP : PartsHeld w) : Calls Tryd.prog 14 #[] w fun e w' => e = .returned (.bool true) ∧ Below w.heap.size w w' := by
  go_enter Tryd.func14, Tryd.ntmps14
  go_wp2_with fail
  refine (bytes10 3 0 0 65793 2 (by decide) (by decide) _ hP).mono ?_
  rintro e w1 ⟨v, rfl, hR1, hb1⟩
  obtain ⟨hc1, hf1⟩ := vbcell hb1
  have hz1 : w.heap.size ≤ w1.heap.size := (by have h_ := hb1.size; (try simp only [World.size_alloc, World.size_setCell, World.size_drew, World.heap_drewN] at h_); omega)
  have HB1 : Below w.heap.size w w1 := vbelow_step (by repeat (first | (with_reducible exact Below.refl _ _) | (with_reducible refine vbelow_alloc ?_ _) | (with_reducible refine vbelow_drew ?_) | (with_reducible refine vbelow_drewN ?_ _) | (with_reducible refine vbelow_set ?_ (by first | exact Nat.le_refl _ | (dsimp only; omega) | omega)))) hb1
  clear hc1 hf1 hb1
  rw [if_pos (by decide), aliveBytes] at hR1
  obtain ⟨ad, c, rfl⟩ := Kd.R_slice1 hR1 (by decide)
  obtain ⟨hn1, hcc, hC1⟩ := Kd.R_reads' hR1
  have hP1 : PartsHeld w1 := hP.below HB1
  have HC1 := Lib.hid hC1
  clear hR1 hn1 hC1
  have hcc' : 16 ≤ c := hcc
  go_wp2_with fail
  refine (aliveParse ad c _ hP1 HC1.out hcc').mono ?_
  rintro e w2 ⟨rfl, hb2⟩
  have hC2 : Hid ((Kd.int .u8).C w2 (some ad) 16 [3, 0, 0, 0, 1, 1, 1, 0, 2, 0, 0, 0, 0, 0, 0, 0]) := Kd.C_below HC1.out hb2
  obtain ⟨hc2, hf2⟩ := vbcell hb2
  have hz2 : w1.heap.size ≤ w2.heap.size := (by have h_ := hb2.size; (try simp only [World.size_alloc, World.size_setCell, World.size_drew, World.heap_drewN] at h_); omega)
  have HB2 : Below w.heap.size w w2 := vbelow_step (by repeat (first | (with_reducible exact Below.refl _ _) | (with_reducible exact HB1) | (with_reducible refine vbelow_alloc ?_ _) | (with_reducible refine vbelow_drew ?_) | (with_reducible refine vbelow_drewN ?_ _) | (with_reducible refine vbelow_set ?_ (by first | exact Nat.le_refl _ | (dsimp only; omega) | omega)))) hb2
  clear hc2 hf2 hb2 HB1
  go_wp2_with fail
  refine (aliveParts _).mono ?_
  rintro e w3 ⟨rfl, hb3⟩
  have hW3 : Below w2.heap.size w2 w3 := vbelow_step (vbelow_alloc (Below.refl _ _) _) hb3
  obtain ⟨hc3, hf3⟩ := vbcell hb3
  have hz3 : w2.heap.size + 1 ≤ w3.heap.size := (by have h_ := hb3.size; (try simp only [World.size_alloc, World.size_setCell, World.size_drew, World.heap_drewN] at h_); omega)
  have hc3_2_0 := fun o => hc3 (w2.heap.size) o (by (try simp only [World.size_alloc, World.size_setCell, World.size_drew, World.heap_drewN]); omega)
  have hf3_2_0 := fun o => hf3 (w2.heap.size) o (by (try simp only [World.size_alloc, World.size_setCell, World.size_drew, World.heap_drewN]); omega)
  have HB3 : Below w.heap.size w w3 := vbelow_step (by repeat (first | (with_reducible exact Below.refl _ _) | (with_reducible exact HB2) | (with_reducible refine vbelow_alloc ?_ _) | (with_reducible refine vbelow_drew ?_) | (with_reducible refine vbelow_drewN ?_ _) | (with_reducible refine vbelow_set ?_ (by first | exact Nat.le_refl _ | (dsimp only; omega) | omega)))) hb3
  clear hc3 hf3 hb3 HB2
  have hz3_2_0 : w2.heap.size < w3.heap.size := (by omega)
  have hC3 := Kd.C_below hC2.out hW3
  have hcv : (convert 27 9 (.slice (some ad) 16 c)).run Tryd.prog w3 = .ok (.string { data := #[3, 0, 0, 0, 1, 1, 1, 0, 2, 0, 0, 0, 0, 0, 0, 0] }) w3 := (Kd.C_string Tryd.underlying27 Tryd.underlying5 Tryd.underlying9 hC3).trans (by rw [aliveStr])
  clear hC3 hW3
  go_wp2
  go_ret
  exact ⟨rfl, (by repeat (first | (with_reducible exact Below.refl _ _) | (with_reducible exact HB3) | (with_reducible refine vbelow_alloc ?_ _) | (with_reducible refine vbelow_drew ?_) | (with_reducible refine vbelow_drewN ?_ _) | (with_reducible refine vbelow_set ?_ (by first | exact Nat.le_refl _ | (dsimp only; omega) | omega))))⟩

end Go.Proofs.YtbbnaagfnpeloaaDoor.Q
