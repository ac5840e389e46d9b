/- Layer 1: members told to a function value, as far as it asks for them. -/
import Derived.Test.YtbbmibabjffcaaaB2
namespace Go.Proofs.Ytbbmibabjffcaaa.Q
open Go.RowKit Go.Shelf
attribute [local go_sem] Oper.semAt_some
set_option linter.unusedVariables false
set_option linter.unusedSimpArgs false
open Go.Proofs.YtbbmibabjffcaaaW.PrintWords Go.Proofs.YtbbmibabjffcaaaW.PrintMore
set_option maxRecDepth 100000 in
set_option maxHeartbeats 2000000 in
theorem sets1_in (F : Fence) (n : Nat) (hf : F.fn 19) (hro : F.round = none) (Bg Bm n1 m : Nat) (hn1 : n1 ≤ Bg) (hBm : Bm < n1) (pre : List (Fin 64)) (x : Fin 64) (hlt : pre.length < 64) (hm : m ≤ 64) (W0 W : World) (hW0 : W0.cell? ⟨Bm, 0, none⟩ = some (.int .i64 m))
    (h : (∃ v, Boxed W Bg 22 v ∧ W.ownsRow n1 3 1 v pre.length ((vals pre).map (Value.int .i64))) ∧ n1 ≤ W.heap.size ∧ W.cell? ⟨Bm, 0, none⟩ = some (.int .i64 m) ∧ Below n1 W0 W) :
    CallsIn F n Try.prog 19 #[.int .i64 (x.val : Nat), .pointer (some ⟨Bg, 0, none⟩), .pointer (some ⟨Bm, 0, none⟩)] W fun e W' =>
      e = .returned (.bool (decide (((pre.length + 1 : Nat) : Int) < (m : Int)))) ∧ (∃ v, Boxed W' Bg 22 v ∧ W'.ownsRow n1 3 1 v (pre.length + 1) ((vals (pre ++ [x])).map (Value.int .i64))) ∧ n1 ≤ W'.heap.size ∧ W'.cell? ⟨Bm, 0, none⟩ = some (.int .i64 m) ∧ Below n1 W0 W' ∧ Below n1 W W' := by
  obtain ⟨⟨v, hv, hrow⟩, hz, hM, hB⟩ := h
  obtain ⟨i0, hi, hz0, hz1, hz2⟩ := info_parts infoI
  have hc := hv.cell
  have hxp := x.2
  refine callsIn_of_wp Try.func19 rfl hf ?_ hro
  simp only [Try.ntmps19, List.size_toArray, List.length_cons, List.length_nil, Nat.reduceAdd, Nat.reduceSub, Array.replicate_succ, Array.replicate_zero, List.push_toArray, List.append_toArray, List.nil_append, List.cons_append]
  gi_wp2_with (gi_at_builtin; refine wpListIn_append_own _ rfl _ _ 22 rfl n1 3 i0 (.int .i64 0) 1 8 Try.underlying22 hi hz0 hz1 hz2 rfl (by decide) _ _ _ rfl (hrow.alloc _) ⟨W.heap.size, 0, none⟩ 1 1 [.int .i64 ((x.val : Nat) : Int)] rfl rfl (cell_one_new _ _ _) (by simp [Value.oneCell']) (by unfold maxLen; omega) (by omega) (by simp; omega) ?_; intro v' w1 hown' hgrow _; obtain ⟨g', cap', rfl⟩ := ownsRow_succ hown'; obtain ⟨hv1, hv2, hr2, hk2, hb2⟩ := hv.appended (by decide) hrow hz hn1 hown' hgrow; have hc1 := hv1.cell; have hf1 := hv1.frozen; have hc2 := hv2.cell; have hM2 := (hb2.cell (p := ⟨Bm, 0, none⟩) hBm).trans hM)
  refine bodyPost_ret (results_tmp rfl _ _ _) rfl ?_
  exact ⟨vret_b (by simp), ⟨_, hv2, by rw [vals_snoc, List.map_append]; exact hr2⟩, Nat.le_trans hz hb2.size, hM2, hB.trans hb2, hb2⟩
end Go.Proofs.Ytbbmibabjffcaaa.Q
