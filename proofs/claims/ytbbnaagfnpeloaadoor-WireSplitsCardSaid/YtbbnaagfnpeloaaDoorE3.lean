/- Layer 3: a request's bytes, by the program, for every request. -/
import Derived.Test.YtbbnaagfnpeloaaDoorE1
namespace Go.Proofs.YtbbnaagfnpeloaaDoor.Q
open Go.RowKit Go.Proofs.YtbbnaagfnpeloaaDoorW.PrintWords Go.Proofs.YtbbnaagfnpeloaaDoorW.PrintMore
set_option linter.unusedVariables false
set_option linter.unusedSimpArgs false

set_option maxHeartbeats 1000000 in
set_option maxRecDepth 100000 in
theorem bytes10 (kd a rt h p : Int) (h0 : 0 ≤ h) (h1 : h < 4294967296) (w : World) (hP : PartsHeld w) :
    Calls Tryd.prog 10 #[.agg #[.int .u8 kd, .int .u8 a, .int .u8 rt, .int .u32 h, .int .u64 p]] w fun e w' => ∃ v, e = .returned (.tuple #[v, .int .i64 (if isReq kd a rt h p = true then 0 else 30)]) ∧ OwnBytes w w' v (if isReq kd a rt h p = true then bytes16 kd a rt h p else []) ∧ Below w.heap.size w w' := by
  have hc := check_eq kd a rt h p
  cases hq : isReq kd a rt h p with
  | true =>
    rw [hq, if_pos rfl] at hc
    rw [if_pos rfl, if_pos rfl]
    have HC := Lib.hid hc
    clear hc hq
    go_enter Tryd.func10, Tryd.ntmps10
    go_wp2_with fail
    refine (wire_Check.calls kd a rt h p 0 _ HC.out).mono ?_
    rintro e w1 ⟨rfl, hb1⟩
    have hP1 := (hP.below (vbelow_alloc (Below.refl _ _) _)).below hb1
    obtain ⟨hc1, hf1⟩ := vbcell hb1
    have hc1_0 := fun o => hc1 w.heap.size o (by simp only [World.size_alloc]; omega)
    have hz1 : w.heap.size + 1 ≤ w1.heap.size := (by have h_ := hb1.size; simp only [World.size_alloc] at h_; omega)
    have HB1 : Below w.heap.size w w1 := vbelow_step (vbelow_alloc (Below.refl _ _) _) hb1
    have HP1 := Lib.hid hP1
    clear hc1 hf1 hb1 hP hP1
    go_wp2_with fail
    refine (laid30 kd a rt h p h0 h1 _ HP1.out).mono ?_
    rintro e w2 ⟨v, rfl, hR2, hb2⟩
    have HR2 := Lib.hid hR2
    clear hR2
    go_wp2
    go_ret2
    exact ⟨v, rfl, Kd.R_lower HR2.out HB1.size, vbelow_step HB1 hb2⟩
  | false =>
    rw [hq, if_neg (by decide)] at hc
    rw [if_neg (by decide), if_neg (by decide)]
    have HC := Lib.hid hc
    clear hc hq hP
    go_enter Tryd.func10, Tryd.ntmps10
    go_wp2_with fail
    refine (wire_Check.calls kd a rt h p 30 _ HC.out).mono ?_
    rintro e w1 ⟨rfl, hb1⟩
    go_wp2
    go_ret2
    exact ⟨_, rfl, Kd.R_nil _ _ _ _ _, vbelow_step (vbelow_alloc (Below.refl _ _) _) hb1⟩

end Go.Proofs.YtbbnaagfnpeloaaDoor.Q
