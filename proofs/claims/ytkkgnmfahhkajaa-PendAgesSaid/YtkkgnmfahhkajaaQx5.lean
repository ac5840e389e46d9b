/- Layer 17: a new operation, by hand under the printed text's name. -/
import Derived.Test.YtkkgnmfahhkajaaV
import Derived.Test.YtkkgnmfahhkajaaQx4
namespace Go.Proofs.Ytkkgnmfahhkajaa.Q
open Go.RowKit Go.Proofs.YtkkgnmfahhkajaaW.PrintWords Go.Proofs.YtkkgnmfahhkajaaW.PrintMore
set_option linter.unusedVariables false
set_option linter.unusedSimpArgs false
def step_New.f (a0 : Int) (a1_0 : Int) (a1_1 : Int) (a1_2 : Int) (a1_3 : Int) (a1_4 : Int) : Option (Int × Int × Int × Int × Int × Int × Int × Int × Int × Int × Int × Int × Int) := if a0 < 1 then (some (0, 0, 0, 0, 0, 0, 0, 0, 0, 0, 0, 0, 1)) else ((wire_Check.f a1_0 a1_1 a1_2 a1_3 a1_4).bind fun t158 => (if t158 = 0 then ((step_Steps.f a1_0).bind fun t159 => (if 0 < (t159.length : Int) then (some (a0, a1_0, a1_1, a1_2, a1_3, a1_4, rd t159 0, 0, 0, 0, 0, 0, 0)) else (none))) else (some (0, 0, 0, 0, 0, 0, 0, 0, 0, 0, 0, 0, t158))))
theorem put12 {W : World} {g t : Nat} {u0 u1 u2 u3 u4 u5 u6 u7 u8 u9 u10 u11 : Value} (h : W.heap[g]? = some (.cells #[u0, u1, u2, u3, u4, u5, u6, u7, u8, u9, u10, u11] t (0, 0))) (v0 v1 v2 v3 v4 v5 v6 v7 v8 v9 v10 v11 : Value) : (World.setCell (World.setCell (World.setCell (World.setCell (World.setCell (World.setCell (World.setCell (World.setCell (World.setCell (World.setCell (World.setCell (World.setCell W ⟨g, 0, none⟩ v0) ⟨g, 1, none⟩ v1) ⟨g, 2, none⟩ v2) ⟨g, 3, none⟩ v3) ⟨g, 4, none⟩ v4) ⟨g, 5, none⟩ v5) ⟨g, 6, none⟩ v6) ⟨g, 7, none⟩ v7) ⟨g, 8, none⟩ v8) ⟨g, 9, none⟩ v9) ⟨g, 10, none⟩ v10) ⟨g, 11, none⟩ v11).heap[g]? = some (.cells #[v0, v1, v2, v3, v4, v5, v6, v7, v8, v9, v10, v11] t (0, 0)) := by
 refine blk_put (cs := #[v0, v1, v2, v3, v4, v5, v6, v7, v8, v9, v10, u11]) ?_ 11 _ (by simp only [List.setIfInBounds_toArray, List.set_cons_zero, List.set_cons_succ])
 refine blk_put (cs := #[v0, v1, v2, v3, v4, v5, v6, v7, v8, v9, u10, u11]) ?_ 10 _ (by simp only [List.setIfInBounds_toArray, List.set_cons_zero, List.set_cons_succ])
 refine blk_put (cs := #[v0, v1, v2, v3, v4, v5, v6, v7, v8, u9, u10, u11]) ?_ 9 _ (by simp only [List.setIfInBounds_toArray, List.set_cons_zero, List.set_cons_succ])
 refine blk_put (cs := #[v0, v1, v2, v3, v4, v5, v6, v7, u8, u9, u10, u11]) ?_ 8 _ (by simp only [List.setIfInBounds_toArray, List.set_cons_zero, List.set_cons_succ])
 refine blk_put (cs := #[v0, v1, v2, v3, v4, v5, v6, u7, u8, u9, u10, u11]) ?_ 7 _ (by simp only [List.setIfInBounds_toArray, List.set_cons_zero, List.set_cons_succ])
 refine blk_put (cs := #[v0, v1, v2, v3, v4, v5, u6, u7, u8, u9, u10, u11]) ?_ 6 _ (by simp only [List.setIfInBounds_toArray, List.set_cons_zero, List.set_cons_succ])
 refine blk_put (cs := #[v0, v1, v2, v3, v4, u5, u6, u7, u8, u9, u10, u11]) ?_ 5 _ (by simp only [List.setIfInBounds_toArray, List.set_cons_zero, List.set_cons_succ])
 refine blk_put (cs := #[v0, v1, v2, v3, u4, u5, u6, u7, u8, u9, u10, u11]) ?_ 4 _ (by simp only [List.setIfInBounds_toArray, List.set_cons_zero, List.set_cons_succ])
 refine blk_put (cs := #[v0, v1, v2, u3, u4, u5, u6, u7, u8, u9, u10, u11]) ?_ 3 _ (by simp only [List.setIfInBounds_toArray, List.set_cons_zero, List.set_cons_succ])
 refine blk_put (cs := #[v0, v1, u2, u3, u4, u5, u6, u7, u8, u9, u10, u11]) ?_ 2 _ (by simp only [List.setIfInBounds_toArray, List.set_cons_zero, List.set_cons_succ])
 refine blk_put (cs := #[v0, u1, u2, u3, u4, u5, u6, u7, u8, u9, u10, u11]) ?_ 1 _ (by simp only [List.setIfInBounds_toArray, List.set_cons_zero, List.set_cons_succ])
 refine blk_put (cs := #[u0, u1, u2, u3, u4, u5, u6, u7, u8, u9, u10, u11]) ?_ 0 _ (by simp only [List.setIfInBounds_toArray, List.set_cons_zero, List.set_cons_succ])
 exact h
theorem blk12 {W : World} {b t : Nat} {u0 u1 u2 u3 u4 u5 u6 u7 u8 u9 u10 u11 : Value} (h : W.heap[b]? = some (.cells #[u0, u1, u2, u3, u4, u5, u6, u7, u8, u9, u10, u11] t (0, 0))) : W.cell? ⟨b, 0, none⟩ = some u0 ∧ W.cell? ⟨b, 1, none⟩ = some u1 ∧ W.cell? ⟨b, 2, none⟩ = some u2 ∧ W.cell? ⟨b, 3, none⟩ = some u3 ∧ W.cell? ⟨b, 4, none⟩ = some u4 ∧ W.cell? ⟨b, 5, none⟩ = some u5 ∧ W.cell? ⟨b, 6, none⟩ = some u6 ∧ W.cell? ⟨b, 7, none⟩ = some u7 ∧ W.cell? ⟨b, 8, none⟩ = some u8 ∧ W.cell? ⟨b, 9, none⟩ = some u9 ∧ W.cell? ⟨b, 10, none⟩ = some u10 ∧ W.cell? ⟨b, 11, none⟩ = some u11 ∧ ∀ o, W.frozen? ⟨b, o, none⟩ = false := by
 unfold World.cell? World.frozen?
 rw [show W.heap[b]? = _ from h]
 exact ⟨rfl, rfl, rfl, rfl, rfl, rfl, rfl, rfl, rfl, rfl, rfl, rfl, fun o => by rw [show W.heap[b]? = _ from h]; simp⟩
set_option maxHeartbeats 1000000 in
set_option maxRecDepth 100000 in
theorem step_New_low (a0 a1_0 a1_1 a1_2 a1_3 a1_4 : Int) (w : World) (ha : a0 < 1) : Calls Try.prog 25 #[.int .i64 a0, .agg #[.int .u8 a1_0, .int .u8 a1_1, .int .u8 a1_2, .int .u32 a1_3, .int .u64 a1_4]] w fun e w' => e = .returned (.tuple #[.agg #[.int .i64 0, .int .u8 0, .int .u8 0, .int .u8 0, .int .u32 0, .int .u64 0, .int .i64 0, .int .i64 0, .int .i64 0, .int .u64 0, .int .u64 0, .int .u64 0], .int .i64 1]) ∧ Below w.heap.size w w' := by
 have d0 : decide (a0 < 1) = true := decide_eq_true ha
 have z1 : (w.alloc (.cells #[.int .u8 a1_0, .int .u8 a1_1, .int .u8 a1_2, .int .u32 a1_3, .int .u64 a1_4] 29)).heap.size = w.heap.size + 1 := by rw [World.size_alloc]
 have H4 : ((w.alloc (.cells #[.int .u8 a1_0, .int .u8 a1_1, .int .u8 a1_2, .int .u32 a1_3, .int .u64 a1_4] 29)).alloc (.cells #[.int .i64 0, .int .u8 0, .int .u8 0, .int .u8 0, .int .u32 0, .int .u64 0, .int .i64 0, .int .i64 0, .int .i64 0, .int .u64 0, .int .u64 0, .int .u64 0] 42)).heap[w.heap.size + 1]? = some (.cells #[.int .i64 0, .int .u8 0, .int .u8 0, .int .u8 0, .int .u32 0, .int .u64 0, .int .i64 0, .int .i64 0, .int .i64 0, .int .u64 0, .int .u64 0, .int .u64 0] 42 (0, 0)) := by rw [← z1]; exact heap_alloc_new _ _
 have R0 : ((w.alloc (.cells #[.int .u8 a1_0, .int .u8 a1_1, .int .u8 a1_2, .int .u32 a1_3, .int .u64 a1_4] 29)).alloc (.cells #[.int .i64 0, .int .u8 0, .int .u8 0, .int .u8 0, .int .u32 0, .int .u64 0, .int .i64 0, .int .i64 0, .int .i64 0, .int .u64 0, .int .u64 0, .int .u64 0] 42)).cell? ⟨w.heap.size, 0, none⟩ = some (.int .u8 a1_0) := vcell_alloc (vcell_new rfl) _
 have R1 : ((w.alloc (.cells #[.int .u8 a1_0, .int .u8 a1_1, .int .u8 a1_2, .int .u32 a1_3, .int .u64 a1_4] 29)).alloc (.cells #[.int .i64 0, .int .u8 0, .int .u8 0, .int .u8 0, .int .u32 0, .int .u64 0, .int .i64 0, .int .i64 0, .int .i64 0, .int .u64 0, .int .u64 0, .int .u64 0] 42)).cell? ⟨w.heap.size, 1, none⟩ = some (.int .u8 a1_1) := vcell_alloc (vcell_new rfl) _
 have R2 : ((w.alloc (.cells #[.int .u8 a1_0, .int .u8 a1_1, .int .u8 a1_2, .int .u32 a1_3, .int .u64 a1_4] 29)).alloc (.cells #[.int .i64 0, .int .u8 0, .int .u8 0, .int .u8 0, .int .u32 0, .int .u64 0, .int .i64 0, .int .i64 0, .int .i64 0, .int .u64 0, .int .u64 0, .int .u64 0] 42)).cell? ⟨w.heap.size, 2, none⟩ = some (.int .u8 a1_2) := vcell_alloc (vcell_new rfl) _
 have R3 : ((w.alloc (.cells #[.int .u8 a1_0, .int .u8 a1_1, .int .u8 a1_2, .int .u32 a1_3, .int .u64 a1_4] 29)).alloc (.cells #[.int .i64 0, .int .u8 0, .int .u8 0, .int .u8 0, .int .u32 0, .int .u64 0, .int .i64 0, .int .i64 0, .int .i64 0, .int .u64 0, .int .u64 0, .int .u64 0] 42)).cell? ⟨w.heap.size, 3, none⟩ = some (.int .u32 a1_3) := vcell_alloc (vcell_new rfl) _
 have R4 : ((w.alloc (.cells #[.int .u8 a1_0, .int .u8 a1_1, .int .u8 a1_2, .int .u32 a1_3, .int .u64 a1_4] 29)).alloc (.cells #[.int .i64 0, .int .u8 0, .int .u8 0, .int .u8 0, .int .u32 0, .int .u64 0, .int .i64 0, .int .i64 0, .int .i64 0, .int .u64 0, .int .u64 0, .int .u64 0] 42)).cell? ⟨w.heap.size, 4, none⟩ = some (.int .u64 a1_4) := vcell_alloc (vcell_new rfl) _
 have AB : Below w.heap.size w ((w.alloc (.cells #[.int .u8 a1_0, .int .u8 a1_1, .int .u8 a1_2, .int .u32 a1_3, .int .u64 a1_4] 29)).alloc (.cells #[.int .i64 0, .int .u8 0, .int .u8 0, .int .u8 0, .int .u32 0, .int .u64 0, .int .i64 0, .int .i64 0, .int .i64 0, .int .u64 0, .int .u64 0, .int .u64 0] 42)) := vbelow_alloc (vbelow_alloc (Below.refl _ _) _) _
 obtain ⟨Y0, Y1, Y2, Y3, Y4, Y5, Y6, Y7, Y8, Y9, Y10, Y11, YF⟩ := blk12 H4
 have Yf0 := YF 0
 have Yf1 := YF 1
 have Yf2 := YF 2
 have Yf3 := YF 3
 have Yf4 := YF 4
 have Yf5 := YF 5
 have Yf6 := YF 6
 have Yf7 := YF 7
 have Yf8 := YF 8
 have Yf9 := YF 9
 have Yf10 := YF 10
 have Yf11 := YF 11
 clear YF
 go_enter Try.func25, Try.ntmps25
 go_wp2
 exact bodyPost_ret (results_ct rfl _ _ (w.heap.size + 1) 42 #[.int .i64 0, .int .u8 0, .int .u8 0, .int .u8 0, .int .u32 0, .int .u64 0, .int .i64 0, .int .i64 0, .int .i64 0, .int .u64 0, .int .u64 0, .int .u64 0] (0, 0) _ rfl H4 Try.underlying42 rfl (by kernel_rfl)) rfl ⟨rfl, AB⟩
set_option maxHeartbeats 1000000 in
set_option maxRecDepth 100000 in
theorem step_New_bad (a0 a1_0 a1_1 a1_2 a1_3 a1_4 : Int) (w : World) (ha : ¬ a0 < 1) (r : Int) (hc : wire_Check.f a1_0 a1_1 a1_2 a1_3 a1_4 = some r) (he : r ≠ 0) : Calls Try.prog 25 #[.int .i64 a0, .agg #[.int .u8 a1_0, .int .u8 a1_1, .int .u8 a1_2, .int .u32 a1_3, .int .u64 a1_4]] w fun e w' => e = .returned (.tuple #[.agg #[.int .i64 0, .int .u8 0, .int .u8 0, .int .u8 0, .int .u32 0, .int .u64 0, .int .i64 0, .int .i64 0, .int .i64 0, .int .u64 0, .int .u64 0, .int .u64 0], .int .i64 r]) ∧ Below w.heap.size w w' := by
 have d0 : decide (a0 < 1) = false := decide_eq_false ha
 have z1 : (w.alloc (.cells #[.int .u8 a1_0, .int .u8 a1_1, .int .u8 a1_2, .int .u32 a1_3, .int .u64 a1_4] 29)).heap.size = w.heap.size + 1 := by rw [World.size_alloc]
 have H4 : ((w.alloc (.cells #[.int .u8 a1_0, .int .u8 a1_1, .int .u8 a1_2, .int .u32 a1_3, .int .u64 a1_4] 29)).alloc (.cells #[.int .i64 0, .int .u8 0, .int .u8 0, .int .u8 0, .int .u32 0, .int .u64 0, .int .i64 0, .int .i64 0, .int .i64 0, .int .u64 0, .int .u64 0, .int .u64 0] 42)).heap[w.heap.size + 1]? = some (.cells #[.int .i64 0, .int .u8 0, .int .u8 0, .int .u8 0, .int .u32 0, .int .u64 0, .int .i64 0, .int .i64 0, .int .i64 0, .int .u64 0, .int .u64 0, .int .u64 0] 42 (0, 0)) := by rw [← z1]; exact heap_alloc_new _ _
 have R0 : ((w.alloc (.cells #[.int .u8 a1_0, .int .u8 a1_1, .int .u8 a1_2, .int .u32 a1_3, .int .u64 a1_4] 29)).alloc (.cells #[.int .i64 0, .int .u8 0, .int .u8 0, .int .u8 0, .int .u32 0, .int .u64 0, .int .i64 0, .int .i64 0, .int .i64 0, .int .u64 0, .int .u64 0, .int .u64 0] 42)).cell? ⟨w.heap.size, 0, none⟩ = some (.int .u8 a1_0) := vcell_alloc (vcell_new rfl) _
 have R1 : ((w.alloc (.cells #[.int .u8 a1_0, .int .u8 a1_1, .int .u8 a1_2, .int .u32 a1_3, .int .u64 a1_4] 29)).alloc (.cells #[.int .i64 0, .int .u8 0, .int .u8 0, .int .u8 0, .int .u32 0, .int .u64 0, .int .i64 0, .int .i64 0, .int .i64 0, .int .u64 0, .int .u64 0, .int .u64 0] 42)).cell? ⟨w.heap.size, 1, none⟩ = some (.int .u8 a1_1) := vcell_alloc (vcell_new rfl) _
 have R2 : ((w.alloc (.cells #[.int .u8 a1_0, .int .u8 a1_1, .int .u8 a1_2, .int .u32 a1_3, .int .u64 a1_4] 29)).alloc (.cells #[.int .i64 0, .int .u8 0, .int .u8 0, .int .u8 0, .int .u32 0, .int .u64 0, .int .i64 0, .int .i64 0, .int .i64 0, .int .u64 0, .int .u64 0, .int .u64 0] 42)).cell? ⟨w.heap.size, 2, none⟩ = some (.int .u8 a1_2) := vcell_alloc (vcell_new rfl) _
 have R3 : ((w.alloc (.cells #[.int .u8 a1_0, .int .u8 a1_1, .int .u8 a1_2, .int .u32 a1_3, .int .u64 a1_4] 29)).alloc (.cells #[.int .i64 0, .int .u8 0, .int .u8 0, .int .u8 0, .int .u32 0, .int .u64 0, .int .i64 0, .int .i64 0, .int .i64 0, .int .u64 0, .int .u64 0, .int .u64 0] 42)).cell? ⟨w.heap.size, 3, none⟩ = some (.int .u32 a1_3) := vcell_alloc (vcell_new rfl) _
 have R4 : ((w.alloc (.cells #[.int .u8 a1_0, .int .u8 a1_1, .int .u8 a1_2, .int .u32 a1_3, .int .u64 a1_4] 29)).alloc (.cells #[.int .i64 0, .int .u8 0, .int .u8 0, .int .u8 0, .int .u32 0, .int .u64 0, .int .i64 0, .int .i64 0, .int .i64 0, .int .u64 0, .int .u64 0, .int .u64 0] 42)).cell? ⟨w.heap.size, 4, none⟩ = some (.int .u64 a1_4) := vcell_alloc (vcell_new rfl) _
 have AB : Below w.heap.size w ((w.alloc (.cells #[.int .u8 a1_0, .int .u8 a1_1, .int .u8 a1_2, .int .u32 a1_3, .int .u64 a1_4] 29)).alloc (.cells #[.int .i64 0, .int .u8 0, .int .u8 0, .int .u8 0, .int .u32 0, .int .u64 0, .int .i64 0, .int .i64 0, .int .i64 0, .int .u64 0, .int .u64 0, .int .u64 0] 42)) := vbelow_alloc (vbelow_alloc (Below.refl _ _) _) _
 have t1 : (r != 0) = true := bne_iff_ne.2 he; have t2 : (r == 0) = false := beq_eq_false_iff_ne.2 he
 go_enter Try.func25, Try.ntmps25
 go_wp2_with fail
 refine (wire_Check.calls a1_0 a1_1 a1_2 a1_3 a1_4 _ _ hc).mono ?_
 rintro e w1 ⟨rfl, hb1⟩
 have HB1 : Below w.heap.size w w1 := vbelow_step AB hb1
 have H5 := (hb1.block (w.heap.size + 1) (by exact (Array.getElem?_eq_some_iff.1 H4).1)).trans H4
 have R0 := vcell hb1 R0
 have R1 := vcell hb1 R1
 have R2 := vcell hb1 R2
 have R3 := vcell hb1 R3
 have R4 := vcell hb1 R4
 clear H4 AB
 obtain ⟨Y0, Y1, Y2, Y3, Y4, Y5, Y6, Y7, Y8, Y9, Y10, Y11, YF⟩ := blk12 H5
 have Yf0 := YF 0
 have Yf1 := YF 1
 have Yf2 := YF 2
 have Yf3 := YF 3
 have Yf4 := YF 4
 have Yf5 := YF 5
 have Yf6 := YF 6
 have Yf7 := YF 7
 have Yf8 := YF 8
 have Yf9 := YF 9
 have Yf10 := YF 10
 have Yf11 := YF 11
 clear YF
 go_wp2
 refine bodyPost_ret (results_ct rfl _ _ (w.heap.size + 1) 42 #[.int .i64 0, .int .u8 0, .int .u8 0, .int .u8 0, .int .u32 0, .int .u64 0, .int .i64 0, .int .i64 0, .int .i64 0, .int .u64 0, .int .u64 0, .int .u64 0] (0, 0) _ rfl (put12 H5 _ _ _ _ _ _ _ _ _ _ _ _) Try.underlying42 rfl (by kernel_rfl)) rfl ⟨rfl, (vbelow_set (vbelow_set (vbelow_set (vbelow_set (vbelow_set (vbelow_set (vbelow_set (vbelow_set (vbelow_set (vbelow_set (vbelow_set (vbelow_set HB1 (Nat.le_succ _)) (Nat.le_succ _)) (Nat.le_succ _)) (Nat.le_succ _)) (Nat.le_succ _)) (Nat.le_succ _)) (Nat.le_succ _)) (Nat.le_succ _)) (Nat.le_succ _)) (Nat.le_succ _)) (Nat.le_succ _)) (Nat.le_succ _))⟩
set_option maxHeartbeats 1000000 in
set_option maxRecDepth 100000 in
theorem step_New_ok (a0 a1_0 a1_1 a1_2 a1_3 a1_4 : Int) (w : World) (ha : ¬ a0 < 1) (hc : wire_Check.f a1_0 a1_1 a1_2 a1_3 a1_4 = some 0) (t : List Int) (hs : step_Steps.f a1_0 = some t) (ht : 0 < t.length) : Calls Try.prog 25 #[.int .i64 a0, .agg #[.int .u8 a1_0, .int .u8 a1_1, .int .u8 a1_2, .int .u32 a1_3, .int .u64 a1_4]] w fun e w' => e = .returned (.tuple #[.agg #[.int .i64 a0, .int .u8 a1_0, .int .u8 a1_1, .int .u8 a1_2, .int .u32 a1_3, .int .u64 a1_4, .int .i64 (rd t 0), .int .i64 0, .int .i64 0, .int .u64 0, .int .u64 0, .int .u64 0], .int .i64 0]) ∧ Below w.heap.size w w' := by
 have d0 : decide (a0 < 1) = false := decide_eq_false ha
 have z1 : (w.alloc (.cells #[.int .u8 a1_0, .int .u8 a1_1, .int .u8 a1_2, .int .u32 a1_3, .int .u64 a1_4] 29)).heap.size = w.heap.size + 1 := by rw [World.size_alloc]
 have H4 : ((w.alloc (.cells #[.int .u8 a1_0, .int .u8 a1_1, .int .u8 a1_2, .int .u32 a1_3, .int .u64 a1_4] 29)).alloc (.cells #[.int .i64 0, .int .u8 0, .int .u8 0, .int .u8 0, .int .u32 0, .int .u64 0, .int .i64 0, .int .i64 0, .int .i64 0, .int .u64 0, .int .u64 0, .int .u64 0] 42)).heap[w.heap.size + 1]? = some (.cells #[.int .i64 0, .int .u8 0, .int .u8 0, .int .u8 0, .int .u32 0, .int .u64 0, .int .i64 0, .int .i64 0, .int .i64 0, .int .u64 0, .int .u64 0, .int .u64 0] 42 (0, 0)) := by rw [← z1]; exact heap_alloc_new _ _
 have R0 : ((w.alloc (.cells #[.int .u8 a1_0, .int .u8 a1_1, .int .u8 a1_2, .int .u32 a1_3, .int .u64 a1_4] 29)).alloc (.cells #[.int .i64 0, .int .u8 0, .int .u8 0, .int .u8 0, .int .u32 0, .int .u64 0, .int .i64 0, .int .i64 0, .int .i64 0, .int .u64 0, .int .u64 0, .int .u64 0] 42)).cell? ⟨w.heap.size, 0, none⟩ = some (.int .u8 a1_0) := vcell_alloc (vcell_new rfl) _
 have R1 : ((w.alloc (.cells #[.int .u8 a1_0, .int .u8 a1_1, .int .u8 a1_2, .int .u32 a1_3, .int .u64 a1_4] 29)).alloc (.cells #[.int .i64 0, .int .u8 0, .int .u8 0, .int .u8 0, .int .u32 0, .int .u64 0, .int .i64 0, .int .i64 0, .int .i64 0, .int .u64 0, .int .u64 0, .int .u64 0] 42)).cell? ⟨w.heap.size, 1, none⟩ = some (.int .u8 a1_1) := vcell_alloc (vcell_new rfl) _
 have R2 : ((w.alloc (.cells #[.int .u8 a1_0, .int .u8 a1_1, .int .u8 a1_2, .int .u32 a1_3, .int .u64 a1_4] 29)).alloc (.cells #[.int .i64 0, .int .u8 0, .int .u8 0, .int .u8 0, .int .u32 0, .int .u64 0, .int .i64 0, .int .i64 0, .int .i64 0, .int .u64 0, .int .u64 0, .int .u64 0] 42)).cell? ⟨w.heap.size, 2, none⟩ = some (.int .u8 a1_2) := vcell_alloc (vcell_new rfl) _
 have R3 : ((w.alloc (.cells #[.int .u8 a1_0, .int .u8 a1_1, .int .u8 a1_2, .int .u32 a1_3, .int .u64 a1_4] 29)).alloc (.cells #[.int .i64 0, .int .u8 0, .int .u8 0, .int .u8 0, .int .u32 0, .int .u64 0, .int .i64 0, .int .i64 0, .int .i64 0, .int .u64 0, .int .u64 0, .int .u64 0] 42)).cell? ⟨w.heap.size, 3, none⟩ = some (.int .u32 a1_3) := vcell_alloc (vcell_new rfl) _
 have R4 : ((w.alloc (.cells #[.int .u8 a1_0, .int .u8 a1_1, .int .u8 a1_2, .int .u32 a1_3, .int .u64 a1_4] 29)).alloc (.cells #[.int .i64 0, .int .u8 0, .int .u8 0, .int .u8 0, .int .u32 0, .int .u64 0, .int .i64 0, .int .i64 0, .int .i64 0, .int .u64 0, .int .u64 0, .int .u64 0] 42)).cell? ⟨w.heap.size, 4, none⟩ = some (.int .u64 a1_4) := vcell_alloc (vcell_new rfl) _
 have AB : Below w.heap.size w ((w.alloc (.cells #[.int .u8 a1_0, .int .u8 a1_1, .int .u8 a1_2, .int .u32 a1_3, .int .u64 a1_4] 29)).alloc (.cells #[.int .i64 0, .int .u8 0, .int .u8 0, .int .u8 0, .int .u32 0, .int .u64 0, .int .i64 0, .int .i64 0, .int .i64 0, .int .u64 0, .int .u64 0, .int .u64 0] 42)) := vbelow_alloc (vbelow_alloc (Below.refl _ _) _) _
 have ht1 : decide (0 < t.length) = true := decide_eq_true ht
 go_enter Try.func25, Try.ntmps25
 go_wp2_with fail
 refine (wire_Check.calls a1_0 a1_1 a1_2 a1_3 a1_4 _ _ hc).mono ?_
 rintro e w1 ⟨rfl, hb1⟩
 have HB1 : Below w.heap.size w w1 := vbelow_step AB hb1
 have H5 := (hb1.block (w.heap.size + 1) (by exact (Array.getElem?_eq_some_iff.1 H4).1)).trans H4
 have R0 := vcell hb1 R0
 have R1 := vcell hb1 R1
 have R2 := vcell hb1 R2
 have R3 := vcell hb1 R3
 have R4 := vcell hb1 R4
 clear H4 AB
 go_wp2
 go_region_with (go_at_call 40; refine (step_Steps.calls a1_0 t _ hs).mono ?_; rintro e w2 ⟨v2, rfl, ho, hb2⟩; have HB2 := vbelow_step (by first | exact HB1.drew | exact vbelow_drew HB1 | exact HB1) hb2; have H6 := (hb2.block (w.heap.size + 1) (by exact (Array.getElem?_eq_some_iff.1 H5).1)).trans H5; have R0 := vcell hb2 R0; have R1 := vcell hb2 R1; have R2 := vcell hb2 R2; have R3 := vcell hb2 R3; have R4 := vcell hb2 R4; obtain ⟨A2, c2, e2⟩ := Kd.R_slice ho; subst e2; have hm2 := (Kd.R_reads' ho).2.1; obtain ⟨ad2, e2, Q2⟩ := Kd.at_int (Kd.R_reads' ho).2.2 0 (by omega) (by omega); subst e2; (try rw [show ((0 : Int)).toNat = 0 from rfl] at Q2); (try rw [Addr.add_zero'] at Q2); obtain ⟨Y0, Y1, Y2, Y3, Y4, Y5, Y6, Y7, Y8, Y9, Y10, Y11, YF⟩ := blk12 H6; have Yf0 := YF 0; have Yf1 := YF 1; have Yf2 := YF 2; have Yf3 := YF 3; have Yf4 := YF 4; have Yf5 := YF 5; have Yf6 := YF 6; have Yf7 := YF 7; have Yf8 := YF 8; have Yf9 := YF 9; have Yf10 := YF 10; have Yf11 := YF 11; clear YF; clear ho)
 all_goals go_wp2
 all_goals (refine bodyPost_ret (results_ct rfl _ _ (w.heap.size + 1) 42 #[.int .i64 a0, .int .u8 a1_0, .int .u8 a1_1, .int .u8 a1_2, .int .u32 a1_3, .int .u64 a1_4, .int .i64 (rd t 0), .int .i64 0, .int .i64 0, .int .u64 0, .int .u64 0, .int .u64 0] (0, 0) _ rfl (put12 H6 _ _ _ _ _ _ _ _ _ _ _ _) Try.underlying42 rfl (by kernel_rfl)) rfl ⟨rfl, (vbelow_set (vbelow_set (vbelow_set (vbelow_set (vbelow_set (vbelow_set (vbelow_set (vbelow_set (vbelow_set (vbelow_set (vbelow_set (vbelow_set HB2 (Nat.le_succ _)) (Nat.le_succ _)) (Nat.le_succ _)) (Nat.le_succ _)) (Nat.le_succ _)) (Nat.le_succ _)) (Nat.le_succ _)) (Nat.le_succ _)) (Nat.le_succ _)) (Nat.le_succ _)) (Nat.le_succ _)) (Nat.le_succ _))⟩)
theorem step_New.calls (a0 : Int) (a1_0 : Int) (a1_1 : Int) (a1_2 : Int) (a1_3 : Int) (a1_4 : Int) (r1 : Int) (r2 : Int) (r3 : Int) (r4 : Int) (r5 : Int) (r6 : Int) (r7 : Int) (r8 : Int) (r9 : Int) (r10 : Int) (r11 : Int) (r12 : Int) (r13 : Int) (w : World) (h : step_New.f a0 a1_0 a1_1 a1_2 a1_3 a1_4 = some (r1, r2, r3, r4, r5, r6, r7, r8, r9, r10, r11, r12, r13)) :
  Calls Try.prog 25 #[.int .i64 a0, .agg #[.int .u8 a1_0, .int .u8 a1_1, .int .u8 a1_2, .int .u32 a1_3, .int .u64 a1_4]] w fun e w' => e = .returned (.tuple #[.agg #[.int .i64 r1, .int .u8 r2, .int .u8 r3, .int .u8 r4, .int .u32 r5, .int .u64 r6, .int .i64 r7, .int .i64 r8, .int .i64 r9, .int .u64 r10, .int .u64 r11, .int .u64 r12], .int .i64 r13]) ∧ Below w.heap.size w w' := by
 unfold step_New.f at h
 by_cases ha : a0 < 1
 ·rw [if_pos ha] at h
  simp only [Option.some.injEq, Prod.mk.injEq] at h
  obtain ⟨rfl, rfl, rfl, rfl, rfl, rfl, rfl, rfl, rfl, rfl, rfl, rfl, rfl⟩ := h
  exact step_New_low _ _ _ _ _ _ w ha
 ·rw [if_neg ha] at h
  obtain ⟨t, hc, h⟩ := Option.bind_eq_some_iff.1 h
  by_cases he : t = 0
  ·subst he
   rw [if_pos rfl] at h
   obtain ⟨l, hs, h⟩ := Option.bind_eq_some_iff.1 h
   by_cases hl : 0 < (l.length : Int)
   ·rw [if_pos hl] at h
    simp only [Option.some.injEq, Prod.mk.injEq] at h
    obtain ⟨rfl, rfl, rfl, rfl, rfl, rfl, rfl, rfl, rfl, rfl, rfl, rfl, rfl⟩ := h
    exact step_New_ok _ _ _ _ _ _ w ha hc l hs (by omega)
   ·rw [if_neg hl] at h
    cases h
  ·rw [if_neg he] at h
   simp only [Option.some.injEq, Prod.mk.injEq] at h
   obtain ⟨rfl, rfl, rfl, rfl, rfl, rfl, rfl, rfl, rfl, rfl, rfl, rfl, rfl⟩ := h
   exact step_New_bad _ _ _ _ _ _ w ha _ hc he
end Go.Proofs.Ytkkgnmfahhkajaa.Q
