-- Printed by a program of this session (wip/tools: the kit's printer, with functions proved by hand let in).
import Derived.Test.YtkkgnmfahhkajaaQx0
namespace Go.Proofs.Ytkkgnmfahhkajaa.Q
open Go.RowKit Go.Proofs.YtkkgnmfahhkajaaW.PrintWords Go.Proofs.YtkkgnmfahhkajaaW.PrintLast Go.Proofs.YtkkgnmfahhkajaaW.PrintMore
attribute [local go_sem] max2_int min2_int max_two min_two max_three min_three max_four min_four   -- for this text's walks alone
set_option linter.unusedVariables false
set_option linter.unusedSimpArgs false

/-! ### rampartref03_Is: function 41 -/
def rampartref03_Is.f (a0_0 : Int) (a0_1 : Int) (a0_2 : Int) (a0_3 : Int) (a0_4 : Int) : Option (Bool) := if a0_2 ≥ 1 then (if a0_0 = 1 then (if a0_2 ≤ 7 then (if a0_3 = 0 then (some (a0_4 == 0)) else (some false)) else (some false)) else (if a0_0 = 2 then (if a0_1 = 0 then (if a0_2 = 0 then (some (a0_4 == 0)) else (some false)) else (some false)) else (if a0_0 = 4 then (if a0_1 = 0 then (if a0_2 = 0 then (some (a0_4 == 0)) else (some false)) else (some false)) else (if a0_0 = 6 then (if a0_1 = 0 then (if a0_2 = 0 then (some (a0_4 == 0)) else (some false)) else (some false)) else (if a0_0 = 7 then (if a0_1 = 0 then (if a0_2 = 0 then (some (a0_4 == 0)) else (some false)) else (some false)) else (if a0_0 = 3 then (if a0_1 = 0 then (some (a0_2 == 0)) else (some false)) else (if a0_0 = 5 then (if a0_2 ≤ 7 then (some (a0_4 == 0)) else (some false)) else (if a0_0 = 8 then (if a0_2 = 0 then (some (a0_3 == 0)) else (some false)) else (if a0_0 = 9 then (if a0_1 = 0 then (if a0_2 = 0 then (if a0_3 = 0 then (some (a0_4 == 0)) else (some false)) else (some false)) else (some false)) else (some false)))))))))) else (if a0_0 = 1 then (some false) else (if a0_0 = 2 then (if a0_1 = 0 then (if a0_2 = 0 then (some (a0_4 == 0)) else (some false)) else (some false)) else (if a0_0 = 4 then (if a0_1 = 0 then (if a0_2 = 0 then (some (a0_4 == 0)) else (some false)) else (some false)) else (if a0_0 = 6 then (if a0_1 = 0 then (if a0_2 = 0 then (some (a0_4 == 0)) else (some false)) else (some false)) else (if a0_0 = 7 then (if a0_1 = 0 then (if a0_2 = 0 then (some (a0_4 == 0)) else (some false)) else (some false)) else (if a0_0 = 3 then (if a0_1 = 0 then (some (a0_2 == 0)) else (some false)) else (if a0_0 = 5 then (some false) else (if a0_0 = 8 then (if a0_2 = 0 then (some (a0_3 == 0)) else (some false)) else (if a0_0 = 9 then (if a0_1 = 0 then (if a0_2 = 0 then (if a0_3 = 0 then (some (a0_4 == 0)) else (some false)) else (some false)) else (some false)) else (some false))))))))))
set_option maxHeartbeats 8000000 in
set_option maxRecDepth 100000 in
theorem rampartref03_Is.calls (a0_0 : Int) (a0_1 : Int) (a0_2 : Int) (a0_3 : Int) (a0_4 : Int) (r : Bool) (w : World) (h : rampartref03_Is.f a0_0 a0_1 a0_2 a0_3 a0_4 = some r) :
  Calls Try.prog 41 #[.agg #[.int .u8 a0_0, .int .u8 a0_1, .int .u8 a0_2, .int .u32 a0_3, .int .u64 a0_4]] w fun e w' => e = .returned (.bool r) ∧ Below w.heap.size w w' := by
 have hu29 := Try.underlying29
 have HB := Aside0.mk (Below.refl w.heap.size w)
 have H : (if a0_2 ≥ 1 then (if a0_0 = 1 then (if a0_2 ≤ 7 then (if a0_3 = 0 then (some (a0_4 == 0)) else (some false)) else (some false)) else (if a0_0 = 2 then (if a0_1 = 0 then (if a0_2 = 0 then (some (a0_4 == 0)) else (some false)) else (some false)) else (if a0_0 = 4 then (if a0_1 = 0 then (if a0_2 = 0 then (some (a0_4 == 0)) else (some false)) else (some false)) else (if a0_0 = 6 then (if a0_1 = 0 then (if a0_2 = 0 then (some (a0_4 == 0)) else (some false)) else (some false)) else (if a0_0 = 7 then (if a0_1 = 0 then (if a0_2 = 0 then (some (a0_4 == 0)) else (some false)) else (some false)) else (if a0_0 = 3 then (if a0_1 = 0 then (some (a0_2 == 0)) else (some false)) else (if a0_0 = 5 then (if a0_2 ≤ 7 then (some (a0_4 == 0)) else (some false)) else (if a0_0 = 8 then (if a0_2 = 0 then (some (a0_3 == 0)) else (some false)) else (if a0_0 = 9 then (if a0_1 = 0 then (if a0_2 = 0 then (if a0_3 = 0 then (some (a0_4 == 0)) else (some false)) else (some false)) else (some false)) else (some false)))))))))) else (if a0_0 = 1 then (some false) else (if a0_0 = 2 then (if a0_1 = 0 then (if a0_2 = 0 then (some (a0_4 == 0)) else (some false)) else (some false)) else (if a0_0 = 4 then (if a0_1 = 0 then (if a0_2 = 0 then (some (a0_4 == 0)) else (some false)) else (some false)) else (if a0_0 = 6 then (if a0_1 = 0 then (if a0_2 = 0 then (some (a0_4 == 0)) else (some false)) else (some false)) else (if a0_0 = 7 then (if a0_1 = 0 then (if a0_2 = 0 then (some (a0_4 == 0)) else (some false)) else (some false)) else (if a0_0 = 3 then (if a0_1 = 0 then (some (a0_2 == 0)) else (some false)) else (if a0_0 = 5 then (some false) else (if a0_0 = 8 then (if a0_2 = 0 then (some (a0_3 == 0)) else (some false)) else (if a0_0 = 9 then (if a0_1 = 0 then (if a0_2 = 0 then (if a0_3 = 0 then (some (a0_4 == 0)) else (some false)) else (some false)) else (some false)) else (some false))))))))))) = some r := h
 clear h
 by_cases c2 : a0_2 ≥ 1
 ·rw [if_pos c2] at H
  have c2b0 : decide (1 ≤ a0_2) = true := decide_eq_true c2
  clear c2
  by_cases c3 : a0_0 = 1
  ·rw [if_pos c3] at H
   have c3b0 : (a0_0 == 1) = true := beq_iff_eq.mpr c3
   have c3b1 : (a0_0 != 1) = false := bne_eq_false_iff_eq.mpr c3
   clear c3
   by_cases c4 : a0_2 ≤ 7
   ·rw [if_pos c4] at H
    have c4b0 : decide (a0_2 ≤ 7) = true := decide_eq_true c4
    clear c4
    by_cases c5 : a0_3 = 0
    ·rw [if_pos c5] at H
     have c5b0 : (a0_3 == 0) = true := beq_iff_eq.mpr c5
     have c5b1 : (a0_3 != 0) = false := bne_eq_false_iff_eq.mpr c5
     clear c5
     obtain rfl := Option.some.inj H
     go_enter Try.func41, Try.ntmps41
     go_wp2_with (first | ((with_reducible refine gate_dst (N := 1) rfl ?_); refine box_event ?hg (N := 1) ?hd (cs := #[.int .u8 a0_0, .int .u8 a0_1, .int .u8 a0_2, .int .u32 a0_3, .int .u64 a0_4]) (t := 29) ?hr ?_; (case hd => rfl); (case hg => rfl); (case hr => first | (go_simp; done) | (go_simp; rfl)); intro gb286 hg w6 hbox hb; have ⟨n0_, n2_⟩ := pkB (stb HB) hb hg; have n3_ := n2_; have n1_ := Aside0.mk (hbox); clear HB; have HB := n0_; have BK286 := n1_; have GW286 := n2_; have GE286 := n3_; clear n0_ n1_ n2_ n3_; clear hb hbox hg; have hcz7_0 : w6.cell? ⟨gb286, 0, none⟩ = some (.int .u8 a0_0) := (blk_cell BK286.out 0).trans rfl; have hcz7_1 : w6.cell? ⟨gb286, 1, none⟩ = some (.int .u8 a0_1) := (blk_cell BK286.out 1).trans rfl; have hcz7_2 : w6.cell? ⟨gb286, 2, none⟩ = some (.int .u8 a0_2) := (blk_cell BK286.out 2).trans rfl; have hcz7_3 : w6.cell? ⟨gb286, 3, none⟩ = some (.int .u32 a0_3) := (blk_cell BK286.out 3).trans rfl; have hcz7_4 : w6.cell? ⟨gb286, 4, none⟩ = some (.int .u64 a0_4) := (blk_cell BK286.out 4).trans rfl; have hfz7_0 := blk_frozen BK286.out 0; have hfz7_1 := blk_frozen BK286.out 1; have hfz7_2 := blk_frozen BK286.out 2; have hfz7_3 := blk_frozen BK286.out 3; have hfz7_4 := blk_frozen BK286.out 4))
     go_ret
     exact ⟨by first | rfl | (simp [*, errW_none, errW_some] <;> rfl), by repeat (first | (with_reducible first | exact HB.out | apply below_alloc | apply pw_below_drewN | apply below_drew1 | refine below_set ?_ GE286.out) | exact HB.out)⟩
    ·rw [if_neg c5] at H
     have c5b0 : (a0_3 == 0) = false := beq_eq_false_iff_ne.mpr c5
     have c5b1 : (a0_3 != 0) = true := bne_iff_ne.mpr c5
     obtain rfl := Option.some.inj H
     go_enter Try.func41, Try.ntmps41
     go_wp2_with (first | ((with_reducible refine gate_dst (N := 1) rfl ?_); refine box_event ?hg (N := 1) ?hd (cs := #[.int .u8 a0_0, .int .u8 a0_1, .int .u8 a0_2, .int .u32 a0_3, .int .u64 a0_4]) (t := 29) ?hr ?_; (case hd => rfl); (case hg => rfl); (case hr => first | (go_simp; done) | (go_simp; rfl)); intro gb286 hg w8 hbox hb; have ⟨n0_, n2_⟩ := pkB (stb HB) hb hg; have n3_ := n2_; have n1_ := Aside0.mk (hbox); clear HB; have HB := n0_; have BK286 := n1_; have GW286 := n2_; have GE286 := n3_; clear n0_ n1_ n2_ n3_; clear hb hbox hg; have hcz9_0 : w8.cell? ⟨gb286, 0, none⟩ = some (.int .u8 a0_0) := (blk_cell BK286.out 0).trans rfl; have hcz9_1 : w8.cell? ⟨gb286, 1, none⟩ = some (.int .u8 a0_1) := (blk_cell BK286.out 1).trans rfl; have hcz9_2 : w8.cell? ⟨gb286, 2, none⟩ = some (.int .u8 a0_2) := (blk_cell BK286.out 2).trans rfl; have hcz9_3 : w8.cell? ⟨gb286, 3, none⟩ = some (.int .u32 a0_3) := (blk_cell BK286.out 3).trans rfl; have hcz9_4 : w8.cell? ⟨gb286, 4, none⟩ = some (.int .u64 a0_4) := (blk_cell BK286.out 4).trans rfl; have hfz9_0 := blk_frozen BK286.out 0; have hfz9_1 := blk_frozen BK286.out 1; have hfz9_2 := blk_frozen BK286.out 2; have hfz9_3 := blk_frozen BK286.out 3; have hfz9_4 := blk_frozen BK286.out 4))
     go_ret
     exact ⟨by first | rfl | (simp [*, errW_none, errW_some] <;> rfl), by repeat (first | (with_reducible first | exact HB.out | apply below_alloc | apply pw_below_drewN | apply below_drew1 | refine below_set ?_ GE286.out) | exact HB.out)⟩
   ·rw [if_neg c4] at H
    have c4b0 : decide (a0_2 ≤ 7) = false := decide_eq_false c4
    clear c4
    obtain rfl := Option.some.inj H
    go_enter Try.func41, Try.ntmps41
    go_wp2_with (first | ((with_reducible refine gate_dst (N := 1) rfl ?_); refine box_event ?hg (N := 1) ?hd (cs := #[.int .u8 a0_0, .int .u8 a0_1, .int .u8 a0_2, .int .u32 a0_3, .int .u64 a0_4]) (t := 29) ?hr ?_; (case hd => rfl); (case hg => rfl); (case hr => first | (go_simp; done) | (go_simp; rfl)); intro gb286 hg w10 hbox hb; have ⟨n0_, n2_⟩ := pkB (stb HB) hb hg; have n3_ := n2_; have n1_ := Aside0.mk (hbox); clear HB; have HB := n0_; have BK286 := n1_; have GW286 := n2_; have GE286 := n3_; clear n0_ n1_ n2_ n3_; clear hb hbox hg; have hcz11_0 : w10.cell? ⟨gb286, 0, none⟩ = some (.int .u8 a0_0) := (blk_cell BK286.out 0).trans rfl; have hcz11_1 : w10.cell? ⟨gb286, 1, none⟩ = some (.int .u8 a0_1) := (blk_cell BK286.out 1).trans rfl; have hcz11_2 : w10.cell? ⟨gb286, 2, none⟩ = some (.int .u8 a0_2) := (blk_cell BK286.out 2).trans rfl; have hcz11_3 : w10.cell? ⟨gb286, 3, none⟩ = some (.int .u32 a0_3) := (blk_cell BK286.out 3).trans rfl; have hcz11_4 : w10.cell? ⟨gb286, 4, none⟩ = some (.int .u64 a0_4) := (blk_cell BK286.out 4).trans rfl; have hfz11_0 := blk_frozen BK286.out 0; have hfz11_1 := blk_frozen BK286.out 1; have hfz11_2 := blk_frozen BK286.out 2; have hfz11_3 := blk_frozen BK286.out 3; have hfz11_4 := blk_frozen BK286.out 4))
    go_ret
    exact ⟨by first | rfl | (simp [*, errW_none, errW_some] <;> rfl), by repeat (first | (with_reducible first | exact HB.out | apply below_alloc | apply pw_below_drewN | apply below_drew1 | refine below_set ?_ GE286.out) | exact HB.out)⟩
  ·rw [if_neg c3] at H
   have c3b0 : (a0_0 == 1) = false := beq_eq_false_iff_ne.mpr c3
   have c3b1 : (a0_0 != 1) = true := bne_iff_ne.mpr c3
   by_cases c12 : a0_0 = 2
   ·rw [if_pos c12] at H
    have c12b0 : (a0_0 == 2) = true := beq_iff_eq.mpr c12
    have c12b1 : (a0_0 != 2) = false := bne_eq_false_iff_eq.mpr c12
    clear c12
    by_cases c13 : a0_1 = 0
    ·rw [if_pos c13] at H
     have c13b0 : (a0_1 == 0) = true := beq_iff_eq.mpr c13
     have c13b1 : (a0_1 != 0) = false := bne_eq_false_iff_eq.mpr c13
     clear c13
     by_cases c14 : a0_2 = 0
     ·rw [if_pos c14] at H
      have c14b0 : (a0_2 == 0) = true := beq_iff_eq.mpr c14
      have c14b1 : (a0_2 != 0) = false := bne_eq_false_iff_eq.mpr c14
      clear c14
      obtain rfl := Option.some.inj H
      go_enter Try.func41, Try.ntmps41
      go_wp2_with (first | ((with_reducible refine gate_dst (N := 1) rfl ?_); refine box_event ?hg (N := 1) ?hd (cs := #[.int .u8 a0_0, .int .u8 a0_1, .int .u8 a0_2, .int .u32 a0_3, .int .u64 a0_4]) (t := 29) ?hr ?_; (case hd => rfl); (case hg => rfl); (case hr => first | (go_simp; done) | (go_simp; rfl)); intro gb286 hg w15 hbox hb; have ⟨n0_, n2_⟩ := pkB (stb HB) hb hg; have n3_ := n2_; have n1_ := Aside0.mk (hbox); clear HB; have HB := n0_; have BK286 := n1_; have GW286 := n2_; have GE286 := n3_; clear n0_ n1_ n2_ n3_; clear hb hbox hg; have hcz16_0 : w15.cell? ⟨gb286, 0, none⟩ = some (.int .u8 a0_0) := (blk_cell BK286.out 0).trans rfl; have hcz16_1 : w15.cell? ⟨gb286, 1, none⟩ = some (.int .u8 a0_1) := (blk_cell BK286.out 1).trans rfl; have hcz16_2 : w15.cell? ⟨gb286, 2, none⟩ = some (.int .u8 a0_2) := (blk_cell BK286.out 2).trans rfl; have hcz16_3 : w15.cell? ⟨gb286, 3, none⟩ = some (.int .u32 a0_3) := (blk_cell BK286.out 3).trans rfl; have hcz16_4 : w15.cell? ⟨gb286, 4, none⟩ = some (.int .u64 a0_4) := (blk_cell BK286.out 4).trans rfl; have hfz16_0 := blk_frozen BK286.out 0; have hfz16_1 := blk_frozen BK286.out 1; have hfz16_2 := blk_frozen BK286.out 2; have hfz16_3 := blk_frozen BK286.out 3; have hfz16_4 := blk_frozen BK286.out 4))
      go_ret
      exact ⟨by first | rfl | (simp [*, errW_none, errW_some] <;> rfl), by repeat (first | (with_reducible first | exact HB.out | apply below_alloc | apply pw_below_drewN | apply below_drew1 | refine below_set ?_ GE286.out) | exact HB.out)⟩
     ·rw [if_neg c14] at H
      have c14b0 : (a0_2 == 0) = false := beq_eq_false_iff_ne.mpr c14
      have c14b1 : (a0_2 != 0) = true := bne_iff_ne.mpr c14
      obtain rfl := Option.some.inj H
      go_enter Try.func41, Try.ntmps41
      go_wp2_with (first | ((with_reducible refine gate_dst (N := 1) rfl ?_); refine box_event ?hg (N := 1) ?hd (cs := #[.int .u8 a0_0, .int .u8 a0_1, .int .u8 a0_2, .int .u32 a0_3, .int .u64 a0_4]) (t := 29) ?hr ?_; (case hd => rfl); (case hg => rfl); (case hr => first | (go_simp; done) | (go_simp; rfl)); intro gb286 hg w17 hbox hb; have ⟨n0_, n2_⟩ := pkB (stb HB) hb hg; have n3_ := n2_; have n1_ := Aside0.mk (hbox); clear HB; have HB := n0_; have BK286 := n1_; have GW286 := n2_; have GE286 := n3_; clear n0_ n1_ n2_ n3_; clear hb hbox hg; have hcz18_0 : w17.cell? ⟨gb286, 0, none⟩ = some (.int .u8 a0_0) := (blk_cell BK286.out 0).trans rfl; have hcz18_1 : w17.cell? ⟨gb286, 1, none⟩ = some (.int .u8 a0_1) := (blk_cell BK286.out 1).trans rfl; have hcz18_2 : w17.cell? ⟨gb286, 2, none⟩ = some (.int .u8 a0_2) := (blk_cell BK286.out 2).trans rfl; have hcz18_3 : w17.cell? ⟨gb286, 3, none⟩ = some (.int .u32 a0_3) := (blk_cell BK286.out 3).trans rfl; have hcz18_4 : w17.cell? ⟨gb286, 4, none⟩ = some (.int .u64 a0_4) := (blk_cell BK286.out 4).trans rfl; have hfz18_0 := blk_frozen BK286.out 0; have hfz18_1 := blk_frozen BK286.out 1; have hfz18_2 := blk_frozen BK286.out 2; have hfz18_3 := blk_frozen BK286.out 3; have hfz18_4 := blk_frozen BK286.out 4))
      go_ret
      exact ⟨by first | rfl | (simp [*, errW_none, errW_some] <;> rfl), by repeat (first | (with_reducible first | exact HB.out | apply below_alloc | apply pw_below_drewN | apply below_drew1 | refine below_set ?_ GE286.out) | exact HB.out)⟩
    ·rw [if_neg c13] at H
     have c13b0 : (a0_1 == 0) = false := beq_eq_false_iff_ne.mpr c13
     have c13b1 : (a0_1 != 0) = true := bne_iff_ne.mpr c13
     obtain rfl := Option.some.inj H
     go_enter Try.func41, Try.ntmps41
     go_wp2_with (first | ((with_reducible refine gate_dst (N := 1) rfl ?_); refine box_event ?hg (N := 1) ?hd (cs := #[.int .u8 a0_0, .int .u8 a0_1, .int .u8 a0_2, .int .u32 a0_3, .int .u64 a0_4]) (t := 29) ?hr ?_; (case hd => rfl); (case hg => rfl); (case hr => first | (go_simp; done) | (go_simp; rfl)); intro gb286 hg w19 hbox hb; have ⟨n0_, n2_⟩ := pkB (stb HB) hb hg; have n3_ := n2_; have n1_ := Aside0.mk (hbox); clear HB; have HB := n0_; have BK286 := n1_; have GW286 := n2_; have GE286 := n3_; clear n0_ n1_ n2_ n3_; clear hb hbox hg; have hcz20_0 : w19.cell? ⟨gb286, 0, none⟩ = some (.int .u8 a0_0) := (blk_cell BK286.out 0).trans rfl; have hcz20_1 : w19.cell? ⟨gb286, 1, none⟩ = some (.int .u8 a0_1) := (blk_cell BK286.out 1).trans rfl; have hcz20_2 : w19.cell? ⟨gb286, 2, none⟩ = some (.int .u8 a0_2) := (blk_cell BK286.out 2).trans rfl; have hcz20_3 : w19.cell? ⟨gb286, 3, none⟩ = some (.int .u32 a0_3) := (blk_cell BK286.out 3).trans rfl; have hcz20_4 : w19.cell? ⟨gb286, 4, none⟩ = some (.int .u64 a0_4) := (blk_cell BK286.out 4).trans rfl; have hfz20_0 := blk_frozen BK286.out 0; have hfz20_1 := blk_frozen BK286.out 1; have hfz20_2 := blk_frozen BK286.out 2; have hfz20_3 := blk_frozen BK286.out 3; have hfz20_4 := blk_frozen BK286.out 4))
     go_ret
     exact ⟨by first | rfl | (simp [*, errW_none, errW_some] <;> rfl), by repeat (first | (with_reducible first | exact HB.out | apply below_alloc | apply pw_below_drewN | apply below_drew1 | refine below_set ?_ GE286.out) | exact HB.out)⟩
   ·rw [if_neg c12] at H
    have c12b0 : (a0_0 == 2) = false := beq_eq_false_iff_ne.mpr c12
    have c12b1 : (a0_0 != 2) = true := bne_iff_ne.mpr c12
    by_cases c21 : a0_0 = 4
    ·rw [if_pos c21] at H
     have c21b0 : (a0_0 == 4) = true := beq_iff_eq.mpr c21
     have c21b1 : (a0_0 != 4) = false := bne_eq_false_iff_eq.mpr c21
     clear c21
     by_cases c22 : a0_1 = 0
     ·rw [if_pos c22] at H
      have c22b0 : (a0_1 == 0) = true := beq_iff_eq.mpr c22
      have c22b1 : (a0_1 != 0) = false := bne_eq_false_iff_eq.mpr c22
      clear c22
      by_cases c23 : a0_2 = 0
      ·rw [if_pos c23] at H
       have c23b0 : (a0_2 == 0) = true := beq_iff_eq.mpr c23
       have c23b1 : (a0_2 != 0) = false := bne_eq_false_iff_eq.mpr c23
       clear c23
       obtain rfl := Option.some.inj H
       go_enter Try.func41, Try.ntmps41
       go_wp2_with (first | ((with_reducible refine gate_dst (N := 1) rfl ?_); refine box_event ?hg (N := 1) ?hd (cs := #[.int .u8 a0_0, .int .u8 a0_1, .int .u8 a0_2, .int .u32 a0_3, .int .u64 a0_4]) (t := 29) ?hr ?_; (case hd => rfl); (case hg => rfl); (case hr => first | (go_simp; done) | (go_simp; rfl)); intro gb286 hg w24 hbox hb; have ⟨n0_, n2_⟩ := pkB (stb HB) hb hg; have n3_ := n2_; have n1_ := Aside0.mk (hbox); clear HB; have HB := n0_; have BK286 := n1_; have GW286 := n2_; have GE286 := n3_; clear n0_ n1_ n2_ n3_; clear hb hbox hg; have hcz25_0 : w24.cell? ⟨gb286, 0, none⟩ = some (.int .u8 a0_0) := (blk_cell BK286.out 0).trans rfl; have hcz25_1 : w24.cell? ⟨gb286, 1, none⟩ = some (.int .u8 a0_1) := (blk_cell BK286.out 1).trans rfl; have hcz25_2 : w24.cell? ⟨gb286, 2, none⟩ = some (.int .u8 a0_2) := (blk_cell BK286.out 2).trans rfl; have hcz25_3 : w24.cell? ⟨gb286, 3, none⟩ = some (.int .u32 a0_3) := (blk_cell BK286.out 3).trans rfl; have hcz25_4 : w24.cell? ⟨gb286, 4, none⟩ = some (.int .u64 a0_4) := (blk_cell BK286.out 4).trans rfl; have hfz25_0 := blk_frozen BK286.out 0; have hfz25_1 := blk_frozen BK286.out 1; have hfz25_2 := blk_frozen BK286.out 2; have hfz25_3 := blk_frozen BK286.out 3; have hfz25_4 := blk_frozen BK286.out 4))
       go_ret
       exact ⟨by first | rfl | (simp [*, errW_none, errW_some] <;> rfl), by repeat (first | (with_reducible first | exact HB.out | apply below_alloc | apply pw_below_drewN | apply below_drew1 | refine below_set ?_ GE286.out) | exact HB.out)⟩
      ·rw [if_neg c23] at H
       have c23b0 : (a0_2 == 0) = false := beq_eq_false_iff_ne.mpr c23
       have c23b1 : (a0_2 != 0) = true := bne_iff_ne.mpr c23
       obtain rfl := Option.some.inj H
       go_enter Try.func41, Try.ntmps41
       go_wp2_with (first | ((with_reducible refine gate_dst (N := 1) rfl ?_); refine box_event ?hg (N := 1) ?hd (cs := #[.int .u8 a0_0, .int .u8 a0_1, .int .u8 a0_2, .int .u32 a0_3, .int .u64 a0_4]) (t := 29) ?hr ?_; (case hd => rfl); (case hg => rfl); (case hr => first | (go_simp; done) | (go_simp; rfl)); intro gb286 hg w26 hbox hb; have ⟨n0_, n2_⟩ := pkB (stb HB) hb hg; have n3_ := n2_; have n1_ := Aside0.mk (hbox); clear HB; have HB := n0_; have BK286 := n1_; have GW286 := n2_; have GE286 := n3_; clear n0_ n1_ n2_ n3_; clear hb hbox hg; have hcz27_0 : w26.cell? ⟨gb286, 0, none⟩ = some (.int .u8 a0_0) := (blk_cell BK286.out 0).trans rfl; have hcz27_1 : w26.cell? ⟨gb286, 1, none⟩ = some (.int .u8 a0_1) := (blk_cell BK286.out 1).trans rfl; have hcz27_2 : w26.cell? ⟨gb286, 2, none⟩ = some (.int .u8 a0_2) := (blk_cell BK286.out 2).trans rfl; have hcz27_3 : w26.cell? ⟨gb286, 3, none⟩ = some (.int .u32 a0_3) := (blk_cell BK286.out 3).trans rfl; have hcz27_4 : w26.cell? ⟨gb286, 4, none⟩ = some (.int .u64 a0_4) := (blk_cell BK286.out 4).trans rfl; have hfz27_0 := blk_frozen BK286.out 0; have hfz27_1 := blk_frozen BK286.out 1; have hfz27_2 := blk_frozen BK286.out 2; have hfz27_3 := blk_frozen BK286.out 3; have hfz27_4 := blk_frozen BK286.out 4))
       go_ret
       exact ⟨by first | rfl | (simp [*, errW_none, errW_some] <;> rfl), by repeat (first | (with_reducible first | exact HB.out | apply below_alloc | apply pw_below_drewN | apply below_drew1 | refine below_set ?_ GE286.out) | exact HB.out)⟩
     ·rw [if_neg c22] at H
      have c22b0 : (a0_1 == 0) = false := beq_eq_false_iff_ne.mpr c22
      have c22b1 : (a0_1 != 0) = true := bne_iff_ne.mpr c22
      obtain rfl := Option.some.inj H
      go_enter Try.func41, Try.ntmps41
      go_wp2_with (first | ((with_reducible refine gate_dst (N := 1) rfl ?_); refine box_event ?hg (N := 1) ?hd (cs := #[.int .u8 a0_0, .int .u8 a0_1, .int .u8 a0_2, .int .u32 a0_3, .int .u64 a0_4]) (t := 29) ?hr ?_; (case hd => rfl); (case hg => rfl); (case hr => first | (go_simp; done) | (go_simp; rfl)); intro gb286 hg w28 hbox hb; have ⟨n0_, n2_⟩ := pkB (stb HB) hb hg; have n3_ := n2_; have n1_ := Aside0.mk (hbox); clear HB; have HB := n0_; have BK286 := n1_; have GW286 := n2_; have GE286 := n3_; clear n0_ n1_ n2_ n3_; clear hb hbox hg; have hcz29_0 : w28.cell? ⟨gb286, 0, none⟩ = some (.int .u8 a0_0) := (blk_cell BK286.out 0).trans rfl; have hcz29_1 : w28.cell? ⟨gb286, 1, none⟩ = some (.int .u8 a0_1) := (blk_cell BK286.out 1).trans rfl; have hcz29_2 : w28.cell? ⟨gb286, 2, none⟩ = some (.int .u8 a0_2) := (blk_cell BK286.out 2).trans rfl; have hcz29_3 : w28.cell? ⟨gb286, 3, none⟩ = some (.int .u32 a0_3) := (blk_cell BK286.out 3).trans rfl; have hcz29_4 : w28.cell? ⟨gb286, 4, none⟩ = some (.int .u64 a0_4) := (blk_cell BK286.out 4).trans rfl; have hfz29_0 := blk_frozen BK286.out 0; have hfz29_1 := blk_frozen BK286.out 1; have hfz29_2 := blk_frozen BK286.out 2; have hfz29_3 := blk_frozen BK286.out 3; have hfz29_4 := blk_frozen BK286.out 4))
      go_ret
      exact ⟨by first | rfl | (simp [*, errW_none, errW_some] <;> rfl), by repeat (first | (with_reducible first | exact HB.out | apply below_alloc | apply pw_below_drewN | apply below_drew1 | refine below_set ?_ GE286.out) | exact HB.out)⟩
    ·rw [if_neg c21] at H
     have c21b0 : (a0_0 == 4) = false := beq_eq_false_iff_ne.mpr c21
     have c21b1 : (a0_0 != 4) = true := bne_iff_ne.mpr c21
     by_cases c30 : a0_0 = 6
     ·rw [if_pos c30] at H
      have c30b0 : (a0_0 == 6) = true := beq_iff_eq.mpr c30
      have c30b1 : (a0_0 != 6) = false := bne_eq_false_iff_eq.mpr c30
      clear c30
      by_cases c31 : a0_1 = 0
      ·rw [if_pos c31] at H
       have c31b0 : (a0_1 == 0) = true := beq_iff_eq.mpr c31
       have c31b1 : (a0_1 != 0) = false := bne_eq_false_iff_eq.mpr c31
       clear c31
       by_cases c32 : a0_2 = 0
       ·rw [if_pos c32] at H
        have c32b0 : (a0_2 == 0) = true := beq_iff_eq.mpr c32
        have c32b1 : (a0_2 != 0) = false := bne_eq_false_iff_eq.mpr c32
        clear c32
        obtain rfl := Option.some.inj H
        go_enter Try.func41, Try.ntmps41
        go_wp2_with (first | ((with_reducible refine gate_dst (N := 1) rfl ?_); refine box_event ?hg (N := 1) ?hd (cs := #[.int .u8 a0_0, .int .u8 a0_1, .int .u8 a0_2, .int .u32 a0_3, .int .u64 a0_4]) (t := 29) ?hr ?_; (case hd => rfl); (case hg => rfl); (case hr => first | (go_simp; done) | (go_simp; rfl)); intro gb286 hg w33 hbox hb; have ⟨n0_, n2_⟩ := pkB (stb HB) hb hg; have n3_ := n2_; have n1_ := Aside0.mk (hbox); clear HB; have HB := n0_; have BK286 := n1_; have GW286 := n2_; have GE286 := n3_; clear n0_ n1_ n2_ n3_; clear hb hbox hg; have hcz34_0 : w33.cell? ⟨gb286, 0, none⟩ = some (.int .u8 a0_0) := (blk_cell BK286.out 0).trans rfl; have hcz34_1 : w33.cell? ⟨gb286, 1, none⟩ = some (.int .u8 a0_1) := (blk_cell BK286.out 1).trans rfl; have hcz34_2 : w33.cell? ⟨gb286, 2, none⟩ = some (.int .u8 a0_2) := (blk_cell BK286.out 2).trans rfl; have hcz34_3 : w33.cell? ⟨gb286, 3, none⟩ = some (.int .u32 a0_3) := (blk_cell BK286.out 3).trans rfl; have hcz34_4 : w33.cell? ⟨gb286, 4, none⟩ = some (.int .u64 a0_4) := (blk_cell BK286.out 4).trans rfl; have hfz34_0 := blk_frozen BK286.out 0; have hfz34_1 := blk_frozen BK286.out 1; have hfz34_2 := blk_frozen BK286.out 2; have hfz34_3 := blk_frozen BK286.out 3; have hfz34_4 := blk_frozen BK286.out 4))
        go_ret
        exact ⟨by first | rfl | (simp [*, errW_none, errW_some] <;> rfl), by repeat (first | (with_reducible first | exact HB.out | apply below_alloc | apply pw_below_drewN | apply below_drew1 | refine below_set ?_ GE286.out) | exact HB.out)⟩
       ·rw [if_neg c32] at H
        have c32b0 : (a0_2 == 0) = false := beq_eq_false_iff_ne.mpr c32
        have c32b1 : (a0_2 != 0) = true := bne_iff_ne.mpr c32
        obtain rfl := Option.some.inj H
        go_enter Try.func41, Try.ntmps41
        go_wp2_with (first | ((with_reducible refine gate_dst (N := 1) rfl ?_); refine box_event ?hg (N := 1) ?hd (cs := #[.int .u8 a0_0, .int .u8 a0_1, .int .u8 a0_2, .int .u32 a0_3, .int .u64 a0_4]) (t := 29) ?hr ?_; (case hd => rfl); (case hg => rfl); (case hr => first | (go_simp; done) | (go_simp; rfl)); intro gb286 hg w35 hbox hb; have ⟨n0_, n2_⟩ := pkB (stb HB) hb hg; have n3_ := n2_; have n1_ := Aside0.mk (hbox); clear HB; have HB := n0_; have BK286 := n1_; have GW286 := n2_; have GE286 := n3_; clear n0_ n1_ n2_ n3_; clear hb hbox hg; have hcz36_0 : w35.cell? ⟨gb286, 0, none⟩ = some (.int .u8 a0_0) := (blk_cell BK286.out 0).trans rfl; have hcz36_1 : w35.cell? ⟨gb286, 1, none⟩ = some (.int .u8 a0_1) := (blk_cell BK286.out 1).trans rfl; have hcz36_2 : w35.cell? ⟨gb286, 2, none⟩ = some (.int .u8 a0_2) := (blk_cell BK286.out 2).trans rfl; have hcz36_3 : w35.cell? ⟨gb286, 3, none⟩ = some (.int .u32 a0_3) := (blk_cell BK286.out 3).trans rfl; have hcz36_4 : w35.cell? ⟨gb286, 4, none⟩ = some (.int .u64 a0_4) := (blk_cell BK286.out 4).trans rfl; have hfz36_0 := blk_frozen BK286.out 0; have hfz36_1 := blk_frozen BK286.out 1; have hfz36_2 := blk_frozen BK286.out 2; have hfz36_3 := blk_frozen BK286.out 3; have hfz36_4 := blk_frozen BK286.out 4))
        go_ret
        exact ⟨by first | rfl | (simp [*, errW_none, errW_some] <;> rfl), by repeat (first | (with_reducible first | exact HB.out | apply below_alloc | apply pw_below_drewN | apply below_drew1 | refine below_set ?_ GE286.out) | exact HB.out)⟩
      ·rw [if_neg c31] at H
       have c31b0 : (a0_1 == 0) = false := beq_eq_false_iff_ne.mpr c31
       have c31b1 : (a0_1 != 0) = true := bne_iff_ne.mpr c31
       obtain rfl := Option.some.inj H
       go_enter Try.func41, Try.ntmps41
       go_wp2_with (first | ((with_reducible refine gate_dst (N := 1) rfl ?_); refine box_event ?hg (N := 1) ?hd (cs := #[.int .u8 a0_0, .int .u8 a0_1, .int .u8 a0_2, .int .u32 a0_3, .int .u64 a0_4]) (t := 29) ?hr ?_; (case hd => rfl); (case hg => rfl); (case hr => first | (go_simp; done) | (go_simp; rfl)); intro gb286 hg w37 hbox hb; have ⟨n0_, n2_⟩ := pkB (stb HB) hb hg; have n3_ := n2_; have n1_ := Aside0.mk (hbox); clear HB; have HB := n0_; have BK286 := n1_; have GW286 := n2_; have GE286 := n3_; clear n0_ n1_ n2_ n3_; clear hb hbox hg; have hcz38_0 : w37.cell? ⟨gb286, 0, none⟩ = some (.int .u8 a0_0) := (blk_cell BK286.out 0).trans rfl; have hcz38_1 : w37.cell? ⟨gb286, 1, none⟩ = some (.int .u8 a0_1) := (blk_cell BK286.out 1).trans rfl; have hcz38_2 : w37.cell? ⟨gb286, 2, none⟩ = some (.int .u8 a0_2) := (blk_cell BK286.out 2).trans rfl; have hcz38_3 : w37.cell? ⟨gb286, 3, none⟩ = some (.int .u32 a0_3) := (blk_cell BK286.out 3).trans rfl; have hcz38_4 : w37.cell? ⟨gb286, 4, none⟩ = some (.int .u64 a0_4) := (blk_cell BK286.out 4).trans rfl; have hfz38_0 := blk_frozen BK286.out 0; have hfz38_1 := blk_frozen BK286.out 1; have hfz38_2 := blk_frozen BK286.out 2; have hfz38_3 := blk_frozen BK286.out 3; have hfz38_4 := blk_frozen BK286.out 4))
       go_ret
       exact ⟨by first | rfl | (simp [*, errW_none, errW_some] <;> rfl), by repeat (first | (with_reducible first | exact HB.out | apply below_alloc | apply pw_below_drewN | apply below_drew1 | refine below_set ?_ GE286.out) | exact HB.out)⟩
     ·rw [if_neg c30] at H
      have c30b0 : (a0_0 == 6) = false := beq_eq_false_iff_ne.mpr c30
      have c30b1 : (a0_0 != 6) = true := bne_iff_ne.mpr c30
      by_cases c39 : a0_0 = 7
      ·rw [if_pos c39] at H
       have c39b0 : (a0_0 == 7) = true := beq_iff_eq.mpr c39
       have c39b1 : (a0_0 != 7) = false := bne_eq_false_iff_eq.mpr c39
       clear c39
       by_cases c40 : a0_1 = 0
       ·rw [if_pos c40] at H
        have c40b0 : (a0_1 == 0) = true := beq_iff_eq.mpr c40
        have c40b1 : (a0_1 != 0) = false := bne_eq_false_iff_eq.mpr c40
        clear c40
        by_cases c41 : a0_2 = 0
        ·rw [if_pos c41] at H
         have c41b0 : (a0_2 == 0) = true := beq_iff_eq.mpr c41
         have c41b1 : (a0_2 != 0) = false := bne_eq_false_iff_eq.mpr c41
         clear c41
         obtain rfl := Option.some.inj H
         go_enter Try.func41, Try.ntmps41
         go_wp2_with (first | ((with_reducible refine gate_dst (N := 1) rfl ?_); refine box_event ?hg (N := 1) ?hd (cs := #[.int .u8 a0_0, .int .u8 a0_1, .int .u8 a0_2, .int .u32 a0_3, .int .u64 a0_4]) (t := 29) ?hr ?_; (case hd => rfl); (case hg => rfl); (case hr => first | (go_simp; done) | (go_simp; rfl)); intro gb286 hg w42 hbox hb; have ⟨n0_, n2_⟩ := pkB (stb HB) hb hg; have n3_ := n2_; have n1_ := Aside0.mk (hbox); clear HB; have HB := n0_; have BK286 := n1_; have GW286 := n2_; have GE286 := n3_; clear n0_ n1_ n2_ n3_; clear hb hbox hg; have hcz43_0 : w42.cell? ⟨gb286, 0, none⟩ = some (.int .u8 a0_0) := (blk_cell BK286.out 0).trans rfl; have hcz43_1 : w42.cell? ⟨gb286, 1, none⟩ = some (.int .u8 a0_1) := (blk_cell BK286.out 1).trans rfl; have hcz43_2 : w42.cell? ⟨gb286, 2, none⟩ = some (.int .u8 a0_2) := (blk_cell BK286.out 2).trans rfl; have hcz43_3 : w42.cell? ⟨gb286, 3, none⟩ = some (.int .u32 a0_3) := (blk_cell BK286.out 3).trans rfl; have hcz43_4 : w42.cell? ⟨gb286, 4, none⟩ = some (.int .u64 a0_4) := (blk_cell BK286.out 4).trans rfl; have hfz43_0 := blk_frozen BK286.out 0; have hfz43_1 := blk_frozen BK286.out 1; have hfz43_2 := blk_frozen BK286.out 2; have hfz43_3 := blk_frozen BK286.out 3; have hfz43_4 := blk_frozen BK286.out 4))
         go_ret
         exact ⟨by first | rfl | (simp [*, errW_none, errW_some] <;> rfl), by repeat (first | (with_reducible first | exact HB.out | apply below_alloc | apply pw_below_drewN | apply below_drew1 | refine below_set ?_ GE286.out) | exact HB.out)⟩
        ·rw [if_neg c41] at H
         have c41b0 : (a0_2 == 0) = false := beq_eq_false_iff_ne.mpr c41
         have c41b1 : (a0_2 != 0) = true := bne_iff_ne.mpr c41
         obtain rfl := Option.some.inj H
         go_enter Try.func41, Try.ntmps41
         go_wp2_with (first | ((with_reducible refine gate_dst (N := 1) rfl ?_); refine box_event ?hg (N := 1) ?hd (cs := #[.int .u8 a0_0, .int .u8 a0_1, .int .u8 a0_2, .int .u32 a0_3, .int .u64 a0_4]) (t := 29) ?hr ?_; (case hd => rfl); (case hg => rfl); (case hr => first | (go_simp; done) | (go_simp; rfl)); intro gb286 hg w44 hbox hb; have ⟨n0_, n2_⟩ := pkB (stb HB) hb hg; have n3_ := n2_; have n1_ := Aside0.mk (hbox); clear HB; have HB := n0_; have BK286 := n1_; have GW286 := n2_; have GE286 := n3_; clear n0_ n1_ n2_ n3_; clear hb hbox hg; have hcz45_0 : w44.cell? ⟨gb286, 0, none⟩ = some (.int .u8 a0_0) := (blk_cell BK286.out 0).trans rfl; have hcz45_1 : w44.cell? ⟨gb286, 1, none⟩ = some (.int .u8 a0_1) := (blk_cell BK286.out 1).trans rfl; have hcz45_2 : w44.cell? ⟨gb286, 2, none⟩ = some (.int .u8 a0_2) := (blk_cell BK286.out 2).trans rfl; have hcz45_3 : w44.cell? ⟨gb286, 3, none⟩ = some (.int .u32 a0_3) := (blk_cell BK286.out 3).trans rfl; have hcz45_4 : w44.cell? ⟨gb286, 4, none⟩ = some (.int .u64 a0_4) := (blk_cell BK286.out 4).trans rfl; have hfz45_0 := blk_frozen BK286.out 0; have hfz45_1 := blk_frozen BK286.out 1; have hfz45_2 := blk_frozen BK286.out 2; have hfz45_3 := blk_frozen BK286.out 3; have hfz45_4 := blk_frozen BK286.out 4))
         go_ret
         exact ⟨by first | rfl | (simp [*, errW_none, errW_some] <;> rfl), by repeat (first | (with_reducible first | exact HB.out | apply below_alloc | apply pw_below_drewN | apply below_drew1 | refine below_set ?_ GE286.out) | exact HB.out)⟩
       ·rw [if_neg c40] at H
        have c40b0 : (a0_1 == 0) = false := beq_eq_false_iff_ne.mpr c40
        have c40b1 : (a0_1 != 0) = true := bne_iff_ne.mpr c40
        obtain rfl := Option.some.inj H
        go_enter Try.func41, Try.ntmps41
        go_wp2_with (first | ((with_reducible refine gate_dst (N := 1) rfl ?_); refine box_event ?hg (N := 1) ?hd (cs := #[.int .u8 a0_0, .int .u8 a0_1, .int .u8 a0_2, .int .u32 a0_3, .int .u64 a0_4]) (t := 29) ?hr ?_; (case hd => rfl); (case hg => rfl); (case hr => first | (go_simp; done) | (go_simp; rfl)); intro gb286 hg w46 hbox hb; have ⟨n0_, n2_⟩ := pkB (stb HB) hb hg; have n3_ := n2_; have n1_ := Aside0.mk (hbox); clear HB; have HB := n0_; have BK286 := n1_; have GW286 := n2_; have GE286 := n3_; clear n0_ n1_ n2_ n3_; clear hb hbox hg; have hcz47_0 : w46.cell? ⟨gb286, 0, none⟩ = some (.int .u8 a0_0) := (blk_cell BK286.out 0).trans rfl; have hcz47_1 : w46.cell? ⟨gb286, 1, none⟩ = some (.int .u8 a0_1) := (blk_cell BK286.out 1).trans rfl; have hcz47_2 : w46.cell? ⟨gb286, 2, none⟩ = some (.int .u8 a0_2) := (blk_cell BK286.out 2).trans rfl; have hcz47_3 : w46.cell? ⟨gb286, 3, none⟩ = some (.int .u32 a0_3) := (blk_cell BK286.out 3).trans rfl; have hcz47_4 : w46.cell? ⟨gb286, 4, none⟩ = some (.int .u64 a0_4) := (blk_cell BK286.out 4).trans rfl; have hfz47_0 := blk_frozen BK286.out 0; have hfz47_1 := blk_frozen BK286.out 1; have hfz47_2 := blk_frozen BK286.out 2; have hfz47_3 := blk_frozen BK286.out 3; have hfz47_4 := blk_frozen BK286.out 4))
        go_ret
        exact ⟨by first | rfl | (simp [*, errW_none, errW_some] <;> rfl), by repeat (first | (with_reducible first | exact HB.out | apply below_alloc | apply pw_below_drewN | apply below_drew1 | refine below_set ?_ GE286.out) | exact HB.out)⟩
      ·rw [if_neg c39] at H
       have c39b0 : (a0_0 == 7) = false := beq_eq_false_iff_ne.mpr c39
       have c39b1 : (a0_0 != 7) = true := bne_iff_ne.mpr c39
       by_cases c48 : a0_0 = 3
       ·rw [if_pos c48] at H
        have c48b0 : (a0_0 == 3) = true := beq_iff_eq.mpr c48
        have c48b1 : (a0_0 != 3) = false := bne_eq_false_iff_eq.mpr c48
        clear c48
        by_cases c49 : a0_1 = 0
        ·rw [if_pos c49] at H
         have c49b0 : (a0_1 == 0) = true := beq_iff_eq.mpr c49
         have c49b1 : (a0_1 != 0) = false := bne_eq_false_iff_eq.mpr c49
         clear c49
         obtain rfl := Option.some.inj H
         go_enter Try.func41, Try.ntmps41
         go_wp2_with (first | ((with_reducible refine gate_dst (N := 1) rfl ?_); refine box_event ?hg (N := 1) ?hd (cs := #[.int .u8 a0_0, .int .u8 a0_1, .int .u8 a0_2, .int .u32 a0_3, .int .u64 a0_4]) (t := 29) ?hr ?_; (case hd => rfl); (case hg => rfl); (case hr => first | (go_simp; done) | (go_simp; rfl)); intro gb286 hg w50 hbox hb; have ⟨n0_, n2_⟩ := pkB (stb HB) hb hg; have n3_ := n2_; have n1_ := Aside0.mk (hbox); clear HB; have HB := n0_; have BK286 := n1_; have GW286 := n2_; have GE286 := n3_; clear n0_ n1_ n2_ n3_; clear hb hbox hg; have hcz51_0 : w50.cell? ⟨gb286, 0, none⟩ = some (.int .u8 a0_0) := (blk_cell BK286.out 0).trans rfl; have hcz51_1 : w50.cell? ⟨gb286, 1, none⟩ = some (.int .u8 a0_1) := (blk_cell BK286.out 1).trans rfl; have hcz51_2 : w50.cell? ⟨gb286, 2, none⟩ = some (.int .u8 a0_2) := (blk_cell BK286.out 2).trans rfl; have hcz51_3 : w50.cell? ⟨gb286, 3, none⟩ = some (.int .u32 a0_3) := (blk_cell BK286.out 3).trans rfl; have hcz51_4 : w50.cell? ⟨gb286, 4, none⟩ = some (.int .u64 a0_4) := (blk_cell BK286.out 4).trans rfl; have hfz51_0 := blk_frozen BK286.out 0; have hfz51_1 := blk_frozen BK286.out 1; have hfz51_2 := blk_frozen BK286.out 2; have hfz51_3 := blk_frozen BK286.out 3; have hfz51_4 := blk_frozen BK286.out 4))
         go_ret
         exact ⟨by first | rfl | (simp [*, errW_none, errW_some] <;> rfl), by repeat (first | (with_reducible first | exact HB.out | apply below_alloc | apply pw_below_drewN | apply below_drew1 | refine below_set ?_ GE286.out) | exact HB.out)⟩
        ·rw [if_neg c49] at H
         have c49b0 : (a0_1 == 0) = false := beq_eq_false_iff_ne.mpr c49
         have c49b1 : (a0_1 != 0) = true := bne_iff_ne.mpr c49
         obtain rfl := Option.some.inj H
         go_enter Try.func41, Try.ntmps41
         go_wp2_with (first | ((with_reducible refine gate_dst (N := 1) rfl ?_); refine box_event ?hg (N := 1) ?hd (cs := #[.int .u8 a0_0, .int .u8 a0_1, .int .u8 a0_2, .int .u32 a0_3, .int .u64 a0_4]) (t := 29) ?hr ?_; (case hd => rfl); (case hg => rfl); (case hr => first | (go_simp; done) | (go_simp; rfl)); intro gb286 hg w52 hbox hb; have ⟨n0_, n2_⟩ := pkB (stb HB) hb hg; have n3_ := n2_; have n1_ := Aside0.mk (hbox); clear HB; have HB := n0_; have BK286 := n1_; have GW286 := n2_; have GE286 := n3_; clear n0_ n1_ n2_ n3_; clear hb hbox hg; have hcz53_0 : w52.cell? ⟨gb286, 0, none⟩ = some (.int .u8 a0_0) := (blk_cell BK286.out 0).trans rfl; have hcz53_1 : w52.cell? ⟨gb286, 1, none⟩ = some (.int .u8 a0_1) := (blk_cell BK286.out 1).trans rfl; have hcz53_2 : w52.cell? ⟨gb286, 2, none⟩ = some (.int .u8 a0_2) := (blk_cell BK286.out 2).trans rfl; have hcz53_3 : w52.cell? ⟨gb286, 3, none⟩ = some (.int .u32 a0_3) := (blk_cell BK286.out 3).trans rfl; have hcz53_4 : w52.cell? ⟨gb286, 4, none⟩ = some (.int .u64 a0_4) := (blk_cell BK286.out 4).trans rfl; have hfz53_0 := blk_frozen BK286.out 0; have hfz53_1 := blk_frozen BK286.out 1; have hfz53_2 := blk_frozen BK286.out 2; have hfz53_3 := blk_frozen BK286.out 3; have hfz53_4 := blk_frozen BK286.out 4))
         go_ret
         exact ⟨by first | rfl | (simp [*, errW_none, errW_some] <;> rfl), by repeat (first | (with_reducible first | exact HB.out | apply below_alloc | apply pw_below_drewN | apply below_drew1 | refine below_set ?_ GE286.out) | exact HB.out)⟩
       ·rw [if_neg c48] at H
        have c48b0 : (a0_0 == 3) = false := beq_eq_false_iff_ne.mpr c48
        have c48b1 : (a0_0 != 3) = true := bne_iff_ne.mpr c48
        by_cases c54 : a0_0 = 5
        ·rw [if_pos c54] at H
         have c54b0 : (a0_0 == 5) = true := beq_iff_eq.mpr c54
         have c54b1 : (a0_0 != 5) = false := bne_eq_false_iff_eq.mpr c54
         clear c54
         by_cases c55 : a0_2 ≤ 7
         ·rw [if_pos c55] at H
          have c55b0 : decide (a0_2 ≤ 7) = true := decide_eq_true c55
          clear c55
          obtain rfl := Option.some.inj H
          go_enter Try.func41, Try.ntmps41
          go_wp2_with (first | ((with_reducible refine gate_dst (N := 1) rfl ?_); refine box_event ?hg (N := 1) ?hd (cs := #[.int .u8 a0_0, .int .u8 a0_1, .int .u8 a0_2, .int .u32 a0_3, .int .u64 a0_4]) (t := 29) ?hr ?_; (case hd => rfl); (case hg => rfl); (case hr => first | (go_simp; done) | (go_simp; rfl)); intro gb286 hg w56 hbox hb; have ⟨n0_, n2_⟩ := pkB (stb HB) hb hg; have n3_ := n2_; have n1_ := Aside0.mk (hbox); clear HB; have HB := n0_; have BK286 := n1_; have GW286 := n2_; have GE286 := n3_; clear n0_ n1_ n2_ n3_; clear hb hbox hg; have hcz57_0 : w56.cell? ⟨gb286, 0, none⟩ = some (.int .u8 a0_0) := (blk_cell BK286.out 0).trans rfl; have hcz57_1 : w56.cell? ⟨gb286, 1, none⟩ = some (.int .u8 a0_1) := (blk_cell BK286.out 1).trans rfl; have hcz57_2 : w56.cell? ⟨gb286, 2, none⟩ = some (.int .u8 a0_2) := (blk_cell BK286.out 2).trans rfl; have hcz57_3 : w56.cell? ⟨gb286, 3, none⟩ = some (.int .u32 a0_3) := (blk_cell BK286.out 3).trans rfl; have hcz57_4 : w56.cell? ⟨gb286, 4, none⟩ = some (.int .u64 a0_4) := (blk_cell BK286.out 4).trans rfl; have hfz57_0 := blk_frozen BK286.out 0; have hfz57_1 := blk_frozen BK286.out 1; have hfz57_2 := blk_frozen BK286.out 2; have hfz57_3 := blk_frozen BK286.out 3; have hfz57_4 := blk_frozen BK286.out 4))
          go_ret
          exact ⟨by first | rfl | (simp [*, errW_none, errW_some] <;> rfl), by repeat (first | (with_reducible first | exact HB.out | apply below_alloc | apply pw_below_drewN | apply below_drew1 | refine below_set ?_ GE286.out) | exact HB.out)⟩
         ·rw [if_neg c55] at H
          have c55b0 : decide (a0_2 ≤ 7) = false := decide_eq_false c55
          clear c55
          obtain rfl := Option.some.inj H
          go_enter Try.func41, Try.ntmps41
          go_wp2_with (first | ((with_reducible refine gate_dst (N := 1) rfl ?_); refine box_event ?hg (N := 1) ?hd (cs := #[.int .u8 a0_0, .int .u8 a0_1, .int .u8 a0_2, .int .u32 a0_3, .int .u64 a0_4]) (t := 29) ?hr ?_; (case hd => rfl); (case hg => rfl); (case hr => first | (go_simp; done) | (go_simp; rfl)); intro gb286 hg w58 hbox hb; have ⟨n0_, n2_⟩ := pkB (stb HB) hb hg; have n3_ := n2_; have n1_ := Aside0.mk (hbox); clear HB; have HB := n0_; have BK286 := n1_; have GW286 := n2_; have GE286 := n3_; clear n0_ n1_ n2_ n3_; clear hb hbox hg; have hcz59_0 : w58.cell? ⟨gb286, 0, none⟩ = some (.int .u8 a0_0) := (blk_cell BK286.out 0).trans rfl; have hcz59_1 : w58.cell? ⟨gb286, 1, none⟩ = some (.int .u8 a0_1) := (blk_cell BK286.out 1).trans rfl; have hcz59_2 : w58.cell? ⟨gb286, 2, none⟩ = some (.int .u8 a0_2) := (blk_cell BK286.out 2).trans rfl; have hcz59_3 : w58.cell? ⟨gb286, 3, none⟩ = some (.int .u32 a0_3) := (blk_cell BK286.out 3).trans rfl; have hcz59_4 : w58.cell? ⟨gb286, 4, none⟩ = some (.int .u64 a0_4) := (blk_cell BK286.out 4).trans rfl; have hfz59_0 := blk_frozen BK286.out 0; have hfz59_1 := blk_frozen BK286.out 1; have hfz59_2 := blk_frozen BK286.out 2; have hfz59_3 := blk_frozen BK286.out 3; have hfz59_4 := blk_frozen BK286.out 4))
          go_ret
          exact ⟨by first | rfl | (simp [*, errW_none, errW_some] <;> rfl), by repeat (first | (with_reducible first | exact HB.out | apply below_alloc | apply pw_below_drewN | apply below_drew1 | refine below_set ?_ GE286.out) | exact HB.out)⟩
        ·rw [if_neg c54] at H
         have c54b0 : (a0_0 == 5) = false := beq_eq_false_iff_ne.mpr c54
         have c54b1 : (a0_0 != 5) = true := bne_iff_ne.mpr c54
         by_cases c60 : a0_0 = 8
         ·rw [if_pos c60] at H
          have c60b0 : (a0_0 == 8) = true := beq_iff_eq.mpr c60
          have c60b1 : (a0_0 != 8) = false := bne_eq_false_iff_eq.mpr c60
          clear c60
          by_cases c61 : a0_2 = 0
          ·rw [if_pos c61] at H
           have c61b0 : (a0_2 == 0) = true := beq_iff_eq.mpr c61
           have c61b1 : (a0_2 != 0) = false := bne_eq_false_iff_eq.mpr c61
           clear c61
           obtain rfl := Option.some.inj H
           go_enter Try.func41, Try.ntmps41
           go_wp2_with (first | ((with_reducible refine gate_dst (N := 1) rfl ?_); refine box_event ?hg (N := 1) ?hd (cs := #[.int .u8 a0_0, .int .u8 a0_1, .int .u8 a0_2, .int .u32 a0_3, .int .u64 a0_4]) (t := 29) ?hr ?_; (case hd => rfl); (case hg => rfl); (case hr => first | (go_simp; done) | (go_simp; rfl)); intro gb286 hg w62 hbox hb; have ⟨n0_, n2_⟩ := pkB (stb HB) hb hg; have n3_ := n2_; have n1_ := Aside0.mk (hbox); clear HB; have HB := n0_; have BK286 := n1_; have GW286 := n2_; have GE286 := n3_; clear n0_ n1_ n2_ n3_; clear hb hbox hg; have hcz63_0 : w62.cell? ⟨gb286, 0, none⟩ = some (.int .u8 a0_0) := (blk_cell BK286.out 0).trans rfl; have hcz63_1 : w62.cell? ⟨gb286, 1, none⟩ = some (.int .u8 a0_1) := (blk_cell BK286.out 1).trans rfl; have hcz63_2 : w62.cell? ⟨gb286, 2, none⟩ = some (.int .u8 a0_2) := (blk_cell BK286.out 2).trans rfl; have hcz63_3 : w62.cell? ⟨gb286, 3, none⟩ = some (.int .u32 a0_3) := (blk_cell BK286.out 3).trans rfl; have hcz63_4 : w62.cell? ⟨gb286, 4, none⟩ = some (.int .u64 a0_4) := (blk_cell BK286.out 4).trans rfl; have hfz63_0 := blk_frozen BK286.out 0; have hfz63_1 := blk_frozen BK286.out 1; have hfz63_2 := blk_frozen BK286.out 2; have hfz63_3 := blk_frozen BK286.out 3; have hfz63_4 := blk_frozen BK286.out 4))
           go_ret
           exact ⟨by first | rfl | (simp [*, errW_none, errW_some] <;> rfl), by repeat (first | (with_reducible first | exact HB.out | apply below_alloc | apply pw_below_drewN | apply below_drew1 | refine below_set ?_ GE286.out) | exact HB.out)⟩
          ·rw [if_neg c61] at H
           have c61b0 : (a0_2 == 0) = false := beq_eq_false_iff_ne.mpr c61
           have c61b1 : (a0_2 != 0) = true := bne_iff_ne.mpr c61
           obtain rfl := Option.some.inj H
           go_enter Try.func41, Try.ntmps41
           go_wp2_with (first | ((with_reducible refine gate_dst (N := 1) rfl ?_); refine box_event ?hg (N := 1) ?hd (cs := #[.int .u8 a0_0, .int .u8 a0_1, .int .u8 a0_2, .int .u32 a0_3, .int .u64 a0_4]) (t := 29) ?hr ?_; (case hd => rfl); (case hg => rfl); (case hr => first | (go_simp; done) | (go_simp; rfl)); intro gb286 hg w64 hbox hb; have ⟨n0_, n2_⟩ := pkB (stb HB) hb hg; have n3_ := n2_; have n1_ := Aside0.mk (hbox); clear HB; have HB := n0_; have BK286 := n1_; have GW286 := n2_; have GE286 := n3_; clear n0_ n1_ n2_ n3_; clear hb hbox hg; have hcz65_0 : w64.cell? ⟨gb286, 0, none⟩ = some (.int .u8 a0_0) := (blk_cell BK286.out 0).trans rfl; have hcz65_1 : w64.cell? ⟨gb286, 1, none⟩ = some (.int .u8 a0_1) := (blk_cell BK286.out 1).trans rfl; have hcz65_2 : w64.cell? ⟨gb286, 2, none⟩ = some (.int .u8 a0_2) := (blk_cell BK286.out 2).trans rfl; have hcz65_3 : w64.cell? ⟨gb286, 3, none⟩ = some (.int .u32 a0_3) := (blk_cell BK286.out 3).trans rfl; have hcz65_4 : w64.cell? ⟨gb286, 4, none⟩ = some (.int .u64 a0_4) := (blk_cell BK286.out 4).trans rfl; have hfz65_0 := blk_frozen BK286.out 0; have hfz65_1 := blk_frozen BK286.out 1; have hfz65_2 := blk_frozen BK286.out 2; have hfz65_3 := blk_frozen BK286.out 3; have hfz65_4 := blk_frozen BK286.out 4))
           go_ret
           exact ⟨by first | rfl | (simp [*, errW_none, errW_some] <;> rfl), by repeat (first | (with_reducible first | exact HB.out | apply below_alloc | apply pw_below_drewN | apply below_drew1 | refine below_set ?_ GE286.out) | exact HB.out)⟩
         ·rw [if_neg c60] at H
          have c60b0 : (a0_0 == 8) = false := beq_eq_false_iff_ne.mpr c60
          have c60b1 : (a0_0 != 8) = true := bne_iff_ne.mpr c60
          by_cases c66 : a0_0 = 9
          ·rw [if_pos c66] at H
           have c66b0 : (a0_0 == 9) = true := beq_iff_eq.mpr c66
           have c66b1 : (a0_0 != 9) = false := bne_eq_false_iff_eq.mpr c66
           clear c66
           by_cases c67 : a0_1 = 0
           ·rw [if_pos c67] at H
            have c67b0 : (a0_1 == 0) = true := beq_iff_eq.mpr c67
            have c67b1 : (a0_1 != 0) = false := bne_eq_false_iff_eq.mpr c67
            clear c67
            by_cases c68 : a0_2 = 0
            ·rw [if_pos c68] at H
             have c68b0 : (a0_2 == 0) = true := beq_iff_eq.mpr c68
             have c68b1 : (a0_2 != 0) = false := bne_eq_false_iff_eq.mpr c68
             clear c68
             by_cases c69 : a0_3 = 0
             ·rw [if_pos c69] at H
              have c69b0 : (a0_3 == 0) = true := beq_iff_eq.mpr c69
              have c69b1 : (a0_3 != 0) = false := bne_eq_false_iff_eq.mpr c69
              clear c69
              obtain rfl := Option.some.inj H
              go_enter Try.func41, Try.ntmps41
              go_wp2_with (first | ((with_reducible refine gate_dst (N := 1) rfl ?_); refine box_event ?hg (N := 1) ?hd (cs := #[.int .u8 a0_0, .int .u8 a0_1, .int .u8 a0_2, .int .u32 a0_3, .int .u64 a0_4]) (t := 29) ?hr ?_; (case hd => rfl); (case hg => rfl); (case hr => first | (go_simp; done) | (go_simp; rfl)); intro gb286 hg w70 hbox hb; have ⟨n0_, n2_⟩ := pkB (stb HB) hb hg; have n3_ := n2_; have n1_ := Aside0.mk (hbox); clear HB; have HB := n0_; have BK286 := n1_; have GW286 := n2_; have GE286 := n3_; clear n0_ n1_ n2_ n3_; clear hb hbox hg; have hcz71_0 : w70.cell? ⟨gb286, 0, none⟩ = some (.int .u8 a0_0) := (blk_cell BK286.out 0).trans rfl; have hcz71_1 : w70.cell? ⟨gb286, 1, none⟩ = some (.int .u8 a0_1) := (blk_cell BK286.out 1).trans rfl; have hcz71_2 : w70.cell? ⟨gb286, 2, none⟩ = some (.int .u8 a0_2) := (blk_cell BK286.out 2).trans rfl; have hcz71_3 : w70.cell? ⟨gb286, 3, none⟩ = some (.int .u32 a0_3) := (blk_cell BK286.out 3).trans rfl; have hcz71_4 : w70.cell? ⟨gb286, 4, none⟩ = some (.int .u64 a0_4) := (blk_cell BK286.out 4).trans rfl; have hfz71_0 := blk_frozen BK286.out 0; have hfz71_1 := blk_frozen BK286.out 1; have hfz71_2 := blk_frozen BK286.out 2; have hfz71_3 := blk_frozen BK286.out 3; have hfz71_4 := blk_frozen BK286.out 4))
              go_ret
              exact ⟨by first | rfl | (simp [*, errW_none, errW_some] <;> rfl), by repeat (first | (with_reducible first | exact HB.out | apply below_alloc | apply pw_below_drewN | apply below_drew1 | refine below_set ?_ GE286.out) | exact HB.out)⟩
             ·rw [if_neg c69] at H
              have c69b0 : (a0_3 == 0) = false := beq_eq_false_iff_ne.mpr c69
              have c69b1 : (a0_3 != 0) = true := bne_iff_ne.mpr c69
              obtain rfl := Option.some.inj H
              go_enter Try.func41, Try.ntmps41
              go_wp2_with (first | ((with_reducible refine gate_dst (N := 1) rfl ?_); refine box_event ?hg (N := 1) ?hd (cs := #[.int .u8 a0_0, .int .u8 a0_1, .int .u8 a0_2, .int .u32 a0_3, .int .u64 a0_4]) (t := 29) ?hr ?_; (case hd => rfl); (case hg => rfl); (case hr => first | (go_simp; done) | (go_simp; rfl)); intro gb286 hg w72 hbox hb; have ⟨n0_, n2_⟩ := pkB (stb HB) hb hg; have n3_ := n2_; have n1_ := Aside0.mk (hbox); clear HB; have HB := n0_; have BK286 := n1_; have GW286 := n2_; have GE286 := n3_; clear n0_ n1_ n2_ n3_; clear hb hbox hg; have hcz73_0 : w72.cell? ⟨gb286, 0, none⟩ = some (.int .u8 a0_0) := (blk_cell BK286.out 0).trans rfl; have hcz73_1 : w72.cell? ⟨gb286, 1, none⟩ = some (.int .u8 a0_1) := (blk_cell BK286.out 1).trans rfl; have hcz73_2 : w72.cell? ⟨gb286, 2, none⟩ = some (.int .u8 a0_2) := (blk_cell BK286.out 2).trans rfl; have hcz73_3 : w72.cell? ⟨gb286, 3, none⟩ = some (.int .u32 a0_3) := (blk_cell BK286.out 3).trans rfl; have hcz73_4 : w72.cell? ⟨gb286, 4, none⟩ = some (.int .u64 a0_4) := (blk_cell BK286.out 4).trans rfl; have hfz73_0 := blk_frozen BK286.out 0; have hfz73_1 := blk_frozen BK286.out 1; have hfz73_2 := blk_frozen BK286.out 2; have hfz73_3 := blk_frozen BK286.out 3; have hfz73_4 := blk_frozen BK286.out 4))
              go_ret
              exact ⟨by first | rfl | (simp [*, errW_none, errW_some] <;> rfl), by repeat (first | (with_reducible first | exact HB.out | apply below_alloc | apply pw_below_drewN | apply below_drew1 | refine below_set ?_ GE286.out) | exact HB.out)⟩
            ·rw [if_neg c68] at H
             have c68b0 : (a0_2 == 0) = false := beq_eq_false_iff_ne.mpr c68
             have c68b1 : (a0_2 != 0) = true := bne_iff_ne.mpr c68
             obtain rfl := Option.some.inj H
             go_enter Try.func41, Try.ntmps41
             go_wp2_with (first | ((with_reducible refine gate_dst (N := 1) rfl ?_); refine box_event ?hg (N := 1) ?hd (cs := #[.int .u8 a0_0, .int .u8 a0_1, .int .u8 a0_2, .int .u32 a0_3, .int .u64 a0_4]) (t := 29) ?hr ?_; (case hd => rfl); (case hg => rfl); (case hr => first | (go_simp; done) | (go_simp; rfl)); intro gb286 hg w74 hbox hb; have ⟨n0_, n2_⟩ := pkB (stb HB) hb hg; have n3_ := n2_; have n1_ := Aside0.mk (hbox); clear HB; have HB := n0_; have BK286 := n1_; have GW286 := n2_; have GE286 := n3_; clear n0_ n1_ n2_ n3_; clear hb hbox hg; have hcz75_0 : w74.cell? ⟨gb286, 0, none⟩ = some (.int .u8 a0_0) := (blk_cell BK286.out 0).trans rfl; have hcz75_1 : w74.cell? ⟨gb286, 1, none⟩ = some (.int .u8 a0_1) := (blk_cell BK286.out 1).trans rfl; have hcz75_2 : w74.cell? ⟨gb286, 2, none⟩ = some (.int .u8 a0_2) := (blk_cell BK286.out 2).trans rfl; have hcz75_3 : w74.cell? ⟨gb286, 3, none⟩ = some (.int .u32 a0_3) := (blk_cell BK286.out 3).trans rfl; have hcz75_4 : w74.cell? ⟨gb286, 4, none⟩ = some (.int .u64 a0_4) := (blk_cell BK286.out 4).trans rfl; have hfz75_0 := blk_frozen BK286.out 0; have hfz75_1 := blk_frozen BK286.out 1; have hfz75_2 := blk_frozen BK286.out 2; have hfz75_3 := blk_frozen BK286.out 3; have hfz75_4 := blk_frozen BK286.out 4))
             go_ret
             exact ⟨by first | rfl | (simp [*, errW_none, errW_some] <;> rfl), by repeat (first | (with_reducible first | exact HB.out | apply below_alloc | apply pw_below_drewN | apply below_drew1 | refine below_set ?_ GE286.out) | exact HB.out)⟩
           ·rw [if_neg c67] at H
            have c67b0 : (a0_1 == 0) = false := beq_eq_false_iff_ne.mpr c67
            have c67b1 : (a0_1 != 0) = true := bne_iff_ne.mpr c67
            obtain rfl := Option.some.inj H
            go_enter Try.func41, Try.ntmps41
            go_wp2_with (first | ((with_reducible refine gate_dst (N := 1) rfl ?_); refine box_event ?hg (N := 1) ?hd (cs := #[.int .u8 a0_0, .int .u8 a0_1, .int .u8 a0_2, .int .u32 a0_3, .int .u64 a0_4]) (t := 29) ?hr ?_; (case hd => rfl); (case hg => rfl); (case hr => first | (go_simp; done) | (go_simp; rfl)); intro gb286 hg w76 hbox hb; have ⟨n0_, n2_⟩ := pkB (stb HB) hb hg; have n3_ := n2_; have n1_ := Aside0.mk (hbox); clear HB; have HB := n0_; have BK286 := n1_; have GW286 := n2_; have GE286 := n3_; clear n0_ n1_ n2_ n3_; clear hb hbox hg; have hcz77_0 : w76.cell? ⟨gb286, 0, none⟩ = some (.int .u8 a0_0) := (blk_cell BK286.out 0).trans rfl; have hcz77_1 : w76.cell? ⟨gb286, 1, none⟩ = some (.int .u8 a0_1) := (blk_cell BK286.out 1).trans rfl; have hcz77_2 : w76.cell? ⟨gb286, 2, none⟩ = some (.int .u8 a0_2) := (blk_cell BK286.out 2).trans rfl; have hcz77_3 : w76.cell? ⟨gb286, 3, none⟩ = some (.int .u32 a0_3) := (blk_cell BK286.out 3).trans rfl; have hcz77_4 : w76.cell? ⟨gb286, 4, none⟩ = some (.int .u64 a0_4) := (blk_cell BK286.out 4).trans rfl; have hfz77_0 := blk_frozen BK286.out 0; have hfz77_1 := blk_frozen BK286.out 1; have hfz77_2 := blk_frozen BK286.out 2; have hfz77_3 := blk_frozen BK286.out 3; have hfz77_4 := blk_frozen BK286.out 4))
            go_ret
            exact ⟨by first | rfl | (simp [*, errW_none, errW_some] <;> rfl), by repeat (first | (with_reducible first | exact HB.out | apply below_alloc | apply pw_below_drewN | apply below_drew1 | refine below_set ?_ GE286.out) | exact HB.out)⟩
          ·rw [if_neg c66] at H
           have c66b0 : (a0_0 == 9) = false := beq_eq_false_iff_ne.mpr c66
           have c66b1 : (a0_0 != 9) = true := bne_iff_ne.mpr c66
           obtain rfl := Option.some.inj H
           go_enter Try.func41, Try.ntmps41
           go_wp2_with (first | ((with_reducible refine gate_dst (N := 1) rfl ?_); refine box_event ?hg (N := 1) ?hd (cs := #[.int .u8 a0_0, .int .u8 a0_1, .int .u8 a0_2, .int .u32 a0_3, .int .u64 a0_4]) (t := 29) ?hr ?_; (case hd => rfl); (case hg => rfl); (case hr => first | (go_simp; done) | (go_simp; rfl)); intro gb286 hg w78 hbox hb; have ⟨n0_, n2_⟩ := pkB (stb HB) hb hg; have n3_ := n2_; have n1_ := Aside0.mk (hbox); clear HB; have HB := n0_; have BK286 := n1_; have GW286 := n2_; have GE286 := n3_; clear n0_ n1_ n2_ n3_; clear hb hbox hg; have hcz79_0 : w78.cell? ⟨gb286, 0, none⟩ = some (.int .u8 a0_0) := (blk_cell BK286.out 0).trans rfl; have hcz79_1 : w78.cell? ⟨gb286, 1, none⟩ = some (.int .u8 a0_1) := (blk_cell BK286.out 1).trans rfl; have hcz79_2 : w78.cell? ⟨gb286, 2, none⟩ = some (.int .u8 a0_2) := (blk_cell BK286.out 2).trans rfl; have hcz79_3 : w78.cell? ⟨gb286, 3, none⟩ = some (.int .u32 a0_3) := (blk_cell BK286.out 3).trans rfl; have hcz79_4 : w78.cell? ⟨gb286, 4, none⟩ = some (.int .u64 a0_4) := (blk_cell BK286.out 4).trans rfl; have hfz79_0 := blk_frozen BK286.out 0; have hfz79_1 := blk_frozen BK286.out 1; have hfz79_2 := blk_frozen BK286.out 2; have hfz79_3 := blk_frozen BK286.out 3; have hfz79_4 := blk_frozen BK286.out 4))
           go_ret
           exact ⟨by first | rfl | (simp [*, errW_none, errW_some] <;> rfl), by repeat (first | (with_reducible first | exact HB.out | apply below_alloc | apply pw_below_drewN | apply below_drew1 | refine below_set ?_ GE286.out) | exact HB.out)⟩
 ·rw [if_neg c2] at H
  have c2b0 : decide (1 ≤ a0_2) = false := decide_eq_false c2
  clear c2
  by_cases c80 : a0_0 = 1
  ·rw [if_pos c80] at H
   have c80b0 : (a0_0 == 1) = true := beq_iff_eq.mpr c80
   have c80b1 : (a0_0 != 1) = false := bne_eq_false_iff_eq.mpr c80
   clear c80
   obtain rfl := Option.some.inj H
   go_enter Try.func41, Try.ntmps41
   go_wp2_with (first | ((with_reducible refine gate_dst (N := 1) rfl ?_); refine box_event ?hg (N := 1) ?hd (cs := #[.int .u8 a0_0, .int .u8 a0_1, .int .u8 a0_2, .int .u32 a0_3, .int .u64 a0_4]) (t := 29) ?hr ?_; (case hd => rfl); (case hg => rfl); (case hr => first | (go_simp; done) | (go_simp; rfl)); intro gb286 hg w81 hbox hb; have ⟨n0_, n2_⟩ := pkB (stb HB) hb hg; have n3_ := n2_; have n1_ := Aside0.mk (hbox); clear HB; have HB := n0_; have BK286 := n1_; have GW286 := n2_; have GE286 := n3_; clear n0_ n1_ n2_ n3_; clear hb hbox hg; have hcz82_0 : w81.cell? ⟨gb286, 0, none⟩ = some (.int .u8 a0_0) := (blk_cell BK286.out 0).trans rfl; have hcz82_1 : w81.cell? ⟨gb286, 1, none⟩ = some (.int .u8 a0_1) := (blk_cell BK286.out 1).trans rfl; have hcz82_2 : w81.cell? ⟨gb286, 2, none⟩ = some (.int .u8 a0_2) := (blk_cell BK286.out 2).trans rfl; have hcz82_3 : w81.cell? ⟨gb286, 3, none⟩ = some (.int .u32 a0_3) := (blk_cell BK286.out 3).trans rfl; have hcz82_4 : w81.cell? ⟨gb286, 4, none⟩ = some (.int .u64 a0_4) := (blk_cell BK286.out 4).trans rfl; have hfz82_0 := blk_frozen BK286.out 0; have hfz82_1 := blk_frozen BK286.out 1; have hfz82_2 := blk_frozen BK286.out 2; have hfz82_3 := blk_frozen BK286.out 3; have hfz82_4 := blk_frozen BK286.out 4))
   go_ret
   exact ⟨by first | rfl | (simp [*, errW_none, errW_some] <;> rfl), by repeat (first | (with_reducible first | exact HB.out | apply below_alloc | apply pw_below_drewN | apply below_drew1 | refine below_set ?_ GE286.out) | exact HB.out)⟩
  ·rw [if_neg c80] at H
   have c80b0 : (a0_0 == 1) = false := beq_eq_false_iff_ne.mpr c80
   have c80b1 : (a0_0 != 1) = true := bne_iff_ne.mpr c80
   by_cases c83 : a0_0 = 2
   ·rw [if_pos c83] at H
    have c83b0 : (a0_0 == 2) = true := beq_iff_eq.mpr c83
    have c83b1 : (a0_0 != 2) = false := bne_eq_false_iff_eq.mpr c83
    clear c83
    by_cases c84 : a0_1 = 0
    ·rw [if_pos c84] at H
     have c84b0 : (a0_1 == 0) = true := beq_iff_eq.mpr c84
     have c84b1 : (a0_1 != 0) = false := bne_eq_false_iff_eq.mpr c84
     clear c84
     by_cases c85 : a0_2 = 0
     ·rw [if_pos c85] at H
      have c85b0 : (a0_2 == 0) = true := beq_iff_eq.mpr c85
      have c85b1 : (a0_2 != 0) = false := bne_eq_false_iff_eq.mpr c85
      clear c85
      obtain rfl := Option.some.inj H
      go_enter Try.func41, Try.ntmps41
      go_wp2_with (first | ((with_reducible refine gate_dst (N := 1) rfl ?_); refine box_event ?hg (N := 1) ?hd (cs := #[.int .u8 a0_0, .int .u8 a0_1, .int .u8 a0_2, .int .u32 a0_3, .int .u64 a0_4]) (t := 29) ?hr ?_; (case hd => rfl); (case hg => rfl); (case hr => first | (go_simp; done) | (go_simp; rfl)); intro gb286 hg w86 hbox hb; have ⟨n0_, n2_⟩ := pkB (stb HB) hb hg; have n3_ := n2_; have n1_ := Aside0.mk (hbox); clear HB; have HB := n0_; have BK286 := n1_; have GW286 := n2_; have GE286 := n3_; clear n0_ n1_ n2_ n3_; clear hb hbox hg; have hcz87_0 : w86.cell? ⟨gb286, 0, none⟩ = some (.int .u8 a0_0) := (blk_cell BK286.out 0).trans rfl; have hcz87_1 : w86.cell? ⟨gb286, 1, none⟩ = some (.int .u8 a0_1) := (blk_cell BK286.out 1).trans rfl; have hcz87_2 : w86.cell? ⟨gb286, 2, none⟩ = some (.int .u8 a0_2) := (blk_cell BK286.out 2).trans rfl; have hcz87_3 : w86.cell? ⟨gb286, 3, none⟩ = some (.int .u32 a0_3) := (blk_cell BK286.out 3).trans rfl; have hcz87_4 : w86.cell? ⟨gb286, 4, none⟩ = some (.int .u64 a0_4) := (blk_cell BK286.out 4).trans rfl; have hfz87_0 := blk_frozen BK286.out 0; have hfz87_1 := blk_frozen BK286.out 1; have hfz87_2 := blk_frozen BK286.out 2; have hfz87_3 := blk_frozen BK286.out 3; have hfz87_4 := blk_frozen BK286.out 4))
      go_ret
      exact ⟨by first | rfl | (simp [*, errW_none, errW_some] <;> rfl), by repeat (first | (with_reducible first | exact HB.out | apply below_alloc | apply pw_below_drewN | apply below_drew1 | refine below_set ?_ GE286.out) | exact HB.out)⟩
     ·rw [if_neg c85] at H
      have c85b0 : (a0_2 == 0) = false := beq_eq_false_iff_ne.mpr c85
      have c85b1 : (a0_2 != 0) = true := bne_iff_ne.mpr c85
      obtain rfl := Option.some.inj H
      go_enter Try.func41, Try.ntmps41
      go_wp2_with (first | ((with_reducible refine gate_dst (N := 1) rfl ?_); refine box_event ?hg (N := 1) ?hd (cs := #[.int .u8 a0_0, .int .u8 a0_1, .int .u8 a0_2, .int .u32 a0_3, .int .u64 a0_4]) (t := 29) ?hr ?_; (case hd => rfl); (case hg => rfl); (case hr => first | (go_simp; done) | (go_simp; rfl)); intro gb286 hg w88 hbox hb; have ⟨n0_, n2_⟩ := pkB (stb HB) hb hg; have n3_ := n2_; have n1_ := Aside0.mk (hbox); clear HB; have HB := n0_; have BK286 := n1_; have GW286 := n2_; have GE286 := n3_; clear n0_ n1_ n2_ n3_; clear hb hbox hg; have hcz89_0 : w88.cell? ⟨gb286, 0, none⟩ = some (.int .u8 a0_0) := (blk_cell BK286.out 0).trans rfl; have hcz89_1 : w88.cell? ⟨gb286, 1, none⟩ = some (.int .u8 a0_1) := (blk_cell BK286.out 1).trans rfl; have hcz89_2 : w88.cell? ⟨gb286, 2, none⟩ = some (.int .u8 a0_2) := (blk_cell BK286.out 2).trans rfl; have hcz89_3 : w88.cell? ⟨gb286, 3, none⟩ = some (.int .u32 a0_3) := (blk_cell BK286.out 3).trans rfl; have hcz89_4 : w88.cell? ⟨gb286, 4, none⟩ = some (.int .u64 a0_4) := (blk_cell BK286.out 4).trans rfl; have hfz89_0 := blk_frozen BK286.out 0; have hfz89_1 := blk_frozen BK286.out 1; have hfz89_2 := blk_frozen BK286.out 2; have hfz89_3 := blk_frozen BK286.out 3; have hfz89_4 := blk_frozen BK286.out 4))
      go_ret
      exact ⟨by first | rfl | (simp [*, errW_none, errW_some] <;> rfl), by repeat (first | (with_reducible first | exact HB.out | apply below_alloc | apply pw_below_drewN | apply below_drew1 | refine below_set ?_ GE286.out) | exact HB.out)⟩
    ·rw [if_neg c84] at H
     have c84b0 : (a0_1 == 0) = false := beq_eq_false_iff_ne.mpr c84
     have c84b1 : (a0_1 != 0) = true := bne_iff_ne.mpr c84
     obtain rfl := Option.some.inj H
     go_enter Try.func41, Try.ntmps41
     go_wp2_with (first | ((with_reducible refine gate_dst (N := 1) rfl ?_); refine box_event ?hg (N := 1) ?hd (cs := #[.int .u8 a0_0, .int .u8 a0_1, .int .u8 a0_2, .int .u32 a0_3, .int .u64 a0_4]) (t := 29) ?hr ?_; (case hd => rfl); (case hg => rfl); (case hr => first | (go_simp; done) | (go_simp; rfl)); intro gb286 hg w90 hbox hb; have ⟨n0_, n2_⟩ := pkB (stb HB) hb hg; have n3_ := n2_; have n1_ := Aside0.mk (hbox); clear HB; have HB := n0_; have BK286 := n1_; have GW286 := n2_; have GE286 := n3_; clear n0_ n1_ n2_ n3_; clear hb hbox hg; have hcz91_0 : w90.cell? ⟨gb286, 0, none⟩ = some (.int .u8 a0_0) := (blk_cell BK286.out 0).trans rfl; have hcz91_1 : w90.cell? ⟨gb286, 1, none⟩ = some (.int .u8 a0_1) := (blk_cell BK286.out 1).trans rfl; have hcz91_2 : w90.cell? ⟨gb286, 2, none⟩ = some (.int .u8 a0_2) := (blk_cell BK286.out 2).trans rfl; have hcz91_3 : w90.cell? ⟨gb286, 3, none⟩ = some (.int .u32 a0_3) := (blk_cell BK286.out 3).trans rfl; have hcz91_4 : w90.cell? ⟨gb286, 4, none⟩ = some (.int .u64 a0_4) := (blk_cell BK286.out 4).trans rfl; have hfz91_0 := blk_frozen BK286.out 0; have hfz91_1 := blk_frozen BK286.out 1; have hfz91_2 := blk_frozen BK286.out 2; have hfz91_3 := blk_frozen BK286.out 3; have hfz91_4 := blk_frozen BK286.out 4))
     go_ret
     exact ⟨by first | rfl | (simp [*, errW_none, errW_some] <;> rfl), by repeat (first | (with_reducible first | exact HB.out | apply below_alloc | apply pw_below_drewN | apply below_drew1 | refine below_set ?_ GE286.out) | exact HB.out)⟩
   ·rw [if_neg c83] at H
    have c83b0 : (a0_0 == 2) = false := beq_eq_false_iff_ne.mpr c83
    have c83b1 : (a0_0 != 2) = true := bne_iff_ne.mpr c83
    by_cases c92 : a0_0 = 4
    ·rw [if_pos c92] at H
     have c92b0 : (a0_0 == 4) = true := beq_iff_eq.mpr c92
     have c92b1 : (a0_0 != 4) = false := bne_eq_false_iff_eq.mpr c92
     clear c92
     by_cases c93 : a0_1 = 0
     ·rw [if_pos c93] at H
      have c93b0 : (a0_1 == 0) = true := beq_iff_eq.mpr c93
      have c93b1 : (a0_1 != 0) = false := bne_eq_false_iff_eq.mpr c93
      clear c93
      by_cases c94 : a0_2 = 0
      ·rw [if_pos c94] at H
       have c94b0 : (a0_2 == 0) = true := beq_iff_eq.mpr c94
       have c94b1 : (a0_2 != 0) = false := bne_eq_false_iff_eq.mpr c94
       clear c94
       obtain rfl := Option.some.inj H
       go_enter Try.func41, Try.ntmps41
       go_wp2_with (first | ((with_reducible refine gate_dst (N := 1) rfl ?_); refine box_event ?hg (N := 1) ?hd (cs := #[.int .u8 a0_0, .int .u8 a0_1, .int .u8 a0_2, .int .u32 a0_3, .int .u64 a0_4]) (t := 29) ?hr ?_; (case hd => rfl); (case hg => rfl); (case hr => first | (go_simp; done) | (go_simp; rfl)); intro gb286 hg w95 hbox hb; have ⟨n0_, n2_⟩ := pkB (stb HB) hb hg; have n3_ := n2_; have n1_ := Aside0.mk (hbox); clear HB; have HB := n0_; have BK286 := n1_; have GW286 := n2_; have GE286 := n3_; clear n0_ n1_ n2_ n3_; clear hb hbox hg; have hcz96_0 : w95.cell? ⟨gb286, 0, none⟩ = some (.int .u8 a0_0) := (blk_cell BK286.out 0).trans rfl; have hcz96_1 : w95.cell? ⟨gb286, 1, none⟩ = some (.int .u8 a0_1) := (blk_cell BK286.out 1).trans rfl; have hcz96_2 : w95.cell? ⟨gb286, 2, none⟩ = some (.int .u8 a0_2) := (blk_cell BK286.out 2).trans rfl; have hcz96_3 : w95.cell? ⟨gb286, 3, none⟩ = some (.int .u32 a0_3) := (blk_cell BK286.out 3).trans rfl; have hcz96_4 : w95.cell? ⟨gb286, 4, none⟩ = some (.int .u64 a0_4) := (blk_cell BK286.out 4).trans rfl; have hfz96_0 := blk_frozen BK286.out 0; have hfz96_1 := blk_frozen BK286.out 1; have hfz96_2 := blk_frozen BK286.out 2; have hfz96_3 := blk_frozen BK286.out 3; have hfz96_4 := blk_frozen BK286.out 4))
       go_ret
       exact ⟨by first | rfl | (simp [*, errW_none, errW_some] <;> rfl), by repeat (first | (with_reducible first | exact HB.out | apply below_alloc | apply pw_below_drewN | apply below_drew1 | refine below_set ?_ GE286.out) | exact HB.out)⟩
      ·rw [if_neg c94] at H
       have c94b0 : (a0_2 == 0) = false := beq_eq_false_iff_ne.mpr c94
       have c94b1 : (a0_2 != 0) = true := bne_iff_ne.mpr c94
       obtain rfl := Option.some.inj H
       go_enter Try.func41, Try.ntmps41
       go_wp2_with (first | ((with_reducible refine gate_dst (N := 1) rfl ?_); refine box_event ?hg (N := 1) ?hd (cs := #[.int .u8 a0_0, .int .u8 a0_1, .int .u8 a0_2, .int .u32 a0_3, .int .u64 a0_4]) (t := 29) ?hr ?_; (case hd => rfl); (case hg => rfl); (case hr => first | (go_simp; done) | (go_simp; rfl)); intro gb286 hg w97 hbox hb; have ⟨n0_, n2_⟩ := pkB (stb HB) hb hg; have n3_ := n2_; have n1_ := Aside0.mk (hbox); clear HB; have HB := n0_; have BK286 := n1_; have GW286 := n2_; have GE286 := n3_; clear n0_ n1_ n2_ n3_; clear hb hbox hg; have hcz98_0 : w97.cell? ⟨gb286, 0, none⟩ = some (.int .u8 a0_0) := (blk_cell BK286.out 0).trans rfl; have hcz98_1 : w97.cell? ⟨gb286, 1, none⟩ = some (.int .u8 a0_1) := (blk_cell BK286.out 1).trans rfl; have hcz98_2 : w97.cell? ⟨gb286, 2, none⟩ = some (.int .u8 a0_2) := (blk_cell BK286.out 2).trans rfl; have hcz98_3 : w97.cell? ⟨gb286, 3, none⟩ = some (.int .u32 a0_3) := (blk_cell BK286.out 3).trans rfl; have hcz98_4 : w97.cell? ⟨gb286, 4, none⟩ = some (.int .u64 a0_4) := (blk_cell BK286.out 4).trans rfl; have hfz98_0 := blk_frozen BK286.out 0; have hfz98_1 := blk_frozen BK286.out 1; have hfz98_2 := blk_frozen BK286.out 2; have hfz98_3 := blk_frozen BK286.out 3; have hfz98_4 := blk_frozen BK286.out 4))
       go_ret
       exact ⟨by first | rfl | (simp [*, errW_none, errW_some] <;> rfl), by repeat (first | (with_reducible first | exact HB.out | apply below_alloc | apply pw_below_drewN | apply below_drew1 | refine below_set ?_ GE286.out) | exact HB.out)⟩
     ·rw [if_neg c93] at H
      have c93b0 : (a0_1 == 0) = false := beq_eq_false_iff_ne.mpr c93
      have c93b1 : (a0_1 != 0) = true := bne_iff_ne.mpr c93
      obtain rfl := Option.some.inj H
      go_enter Try.func41, Try.ntmps41
      go_wp2_with (first | ((with_reducible refine gate_dst (N := 1) rfl ?_); refine box_event ?hg (N := 1) ?hd (cs := #[.int .u8 a0_0, .int .u8 a0_1, .int .u8 a0_2, .int .u32 a0_3, .int .u64 a0_4]) (t := 29) ?hr ?_; (case hd => rfl); (case hg => rfl); (case hr => first | (go_simp; done) | (go_simp; rfl)); intro gb286 hg w99 hbox hb; have ⟨n0_, n2_⟩ := pkB (stb HB) hb hg; have n3_ := n2_; have n1_ := Aside0.mk (hbox); clear HB; have HB := n0_; have BK286 := n1_; have GW286 := n2_; have GE286 := n3_; clear n0_ n1_ n2_ n3_; clear hb hbox hg; have hcz100_0 : w99.cell? ⟨gb286, 0, none⟩ = some (.int .u8 a0_0) := (blk_cell BK286.out 0).trans rfl; have hcz100_1 : w99.cell? ⟨gb286, 1, none⟩ = some (.int .u8 a0_1) := (blk_cell BK286.out 1).trans rfl; have hcz100_2 : w99.cell? ⟨gb286, 2, none⟩ = some (.int .u8 a0_2) := (blk_cell BK286.out 2).trans rfl; have hcz100_3 : w99.cell? ⟨gb286, 3, none⟩ = some (.int .u32 a0_3) := (blk_cell BK286.out 3).trans rfl; have hcz100_4 : w99.cell? ⟨gb286, 4, none⟩ = some (.int .u64 a0_4) := (blk_cell BK286.out 4).trans rfl; have hfz100_0 := blk_frozen BK286.out 0; have hfz100_1 := blk_frozen BK286.out 1; have hfz100_2 := blk_frozen BK286.out 2; have hfz100_3 := blk_frozen BK286.out 3; have hfz100_4 := blk_frozen BK286.out 4))
      go_ret
      exact ⟨by first | rfl | (simp [*, errW_none, errW_some] <;> rfl), by repeat (first | (with_reducible first | exact HB.out | apply below_alloc | apply pw_below_drewN | apply below_drew1 | refine below_set ?_ GE286.out) | exact HB.out)⟩
    ·rw [if_neg c92] at H
     have c92b0 : (a0_0 == 4) = false := beq_eq_false_iff_ne.mpr c92
     have c92b1 : (a0_0 != 4) = true := bne_iff_ne.mpr c92
     by_cases c101 : a0_0 = 6
     ·rw [if_pos c101] at H
      have c101b0 : (a0_0 == 6) = true := beq_iff_eq.mpr c101
      have c101b1 : (a0_0 != 6) = false := bne_eq_false_iff_eq.mpr c101
      clear c101
      by_cases c102 : a0_1 = 0
      ·rw [if_pos c102] at H
       have c102b0 : (a0_1 == 0) = true := beq_iff_eq.mpr c102
       have c102b1 : (a0_1 != 0) = false := bne_eq_false_iff_eq.mpr c102
       clear c102
       by_cases c103 : a0_2 = 0
       ·rw [if_pos c103] at H
        have c103b0 : (a0_2 == 0) = true := beq_iff_eq.mpr c103
        have c103b1 : (a0_2 != 0) = false := bne_eq_false_iff_eq.mpr c103
        clear c103
        obtain rfl := Option.some.inj H
        go_enter Try.func41, Try.ntmps41
        go_wp2_with (first | ((with_reducible refine gate_dst (N := 1) rfl ?_); refine box_event ?hg (N := 1) ?hd (cs := #[.int .u8 a0_0, .int .u8 a0_1, .int .u8 a0_2, .int .u32 a0_3, .int .u64 a0_4]) (t := 29) ?hr ?_; (case hd => rfl); (case hg => rfl); (case hr => first | (go_simp; done) | (go_simp; rfl)); intro gb286 hg w104 hbox hb; have ⟨n0_, n2_⟩ := pkB (stb HB) hb hg; have n3_ := n2_; have n1_ := Aside0.mk (hbox); clear HB; have HB := n0_; have BK286 := n1_; have GW286 := n2_; have GE286 := n3_; clear n0_ n1_ n2_ n3_; clear hb hbox hg; have hcz105_0 : w104.cell? ⟨gb286, 0, none⟩ = some (.int .u8 a0_0) := (blk_cell BK286.out 0).trans rfl; have hcz105_1 : w104.cell? ⟨gb286, 1, none⟩ = some (.int .u8 a0_1) := (blk_cell BK286.out 1).trans rfl; have hcz105_2 : w104.cell? ⟨gb286, 2, none⟩ = some (.int .u8 a0_2) := (blk_cell BK286.out 2).trans rfl; have hcz105_3 : w104.cell? ⟨gb286, 3, none⟩ = some (.int .u32 a0_3) := (blk_cell BK286.out 3).trans rfl; have hcz105_4 : w104.cell? ⟨gb286, 4, none⟩ = some (.int .u64 a0_4) := (blk_cell BK286.out 4).trans rfl; have hfz105_0 := blk_frozen BK286.out 0; have hfz105_1 := blk_frozen BK286.out 1; have hfz105_2 := blk_frozen BK286.out 2; have hfz105_3 := blk_frozen BK286.out 3; have hfz105_4 := blk_frozen BK286.out 4))
        go_ret
        exact ⟨by first | rfl | (simp [*, errW_none, errW_some] <;> rfl), by repeat (first | (with_reducible first | exact HB.out | apply below_alloc | apply pw_below_drewN | apply below_drew1 | refine below_set ?_ GE286.out) | exact HB.out)⟩
       ·rw [if_neg c103] at H
        have c103b0 : (a0_2 == 0) = false := beq_eq_false_iff_ne.mpr c103
        have c103b1 : (a0_2 != 0) = true := bne_iff_ne.mpr c103
        obtain rfl := Option.some.inj H
        go_enter Try.func41, Try.ntmps41
        go_wp2_with (first | ((with_reducible refine gate_dst (N := 1) rfl ?_); refine box_event ?hg (N := 1) ?hd (cs := #[.int .u8 a0_0, .int .u8 a0_1, .int .u8 a0_2, .int .u32 a0_3, .int .u64 a0_4]) (t := 29) ?hr ?_; (case hd => rfl); (case hg => rfl); (case hr => first | (go_simp; done) | (go_simp; rfl)); intro gb286 hg w106 hbox hb; have ⟨n0_, n2_⟩ := pkB (stb HB) hb hg; have n3_ := n2_; have n1_ := Aside0.mk (hbox); clear HB; have HB := n0_; have BK286 := n1_; have GW286 := n2_; have GE286 := n3_; clear n0_ n1_ n2_ n3_; clear hb hbox hg; have hcz107_0 : w106.cell? ⟨gb286, 0, none⟩ = some (.int .u8 a0_0) := (blk_cell BK286.out 0).trans rfl; have hcz107_1 : w106.cell? ⟨gb286, 1, none⟩ = some (.int .u8 a0_1) := (blk_cell BK286.out 1).trans rfl; have hcz107_2 : w106.cell? ⟨gb286, 2, none⟩ = some (.int .u8 a0_2) := (blk_cell BK286.out 2).trans rfl; have hcz107_3 : w106.cell? ⟨gb286, 3, none⟩ = some (.int .u32 a0_3) := (blk_cell BK286.out 3).trans rfl; have hcz107_4 : w106.cell? ⟨gb286, 4, none⟩ = some (.int .u64 a0_4) := (blk_cell BK286.out 4).trans rfl; have hfz107_0 := blk_frozen BK286.out 0; have hfz107_1 := blk_frozen BK286.out 1; have hfz107_2 := blk_frozen BK286.out 2; have hfz107_3 := blk_frozen BK286.out 3; have hfz107_4 := blk_frozen BK286.out 4))
        go_ret
        exact ⟨by first | rfl | (simp [*, errW_none, errW_some] <;> rfl), by repeat (first | (with_reducible first | exact HB.out | apply below_alloc | apply pw_below_drewN | apply below_drew1 | refine below_set ?_ GE286.out) | exact HB.out)⟩
      ·rw [if_neg c102] at H
       have c102b0 : (a0_1 == 0) = false := beq_eq_false_iff_ne.mpr c102
       have c102b1 : (a0_1 != 0) = true := bne_iff_ne.mpr c102
       obtain rfl := Option.some.inj H
       go_enter Try.func41, Try.ntmps41
       go_wp2_with (first | ((with_reducible refine gate_dst (N := 1) rfl ?_); refine box_event ?hg (N := 1) ?hd (cs := #[.int .u8 a0_0, .int .u8 a0_1, .int .u8 a0_2, .int .u32 a0_3, .int .u64 a0_4]) (t := 29) ?hr ?_; (case hd => rfl); (case hg => rfl); (case hr => first | (go_simp; done) | (go_simp; rfl)); intro gb286 hg w108 hbox hb; have ⟨n0_, n2_⟩ := pkB (stb HB) hb hg; have n3_ := n2_; have n1_ := Aside0.mk (hbox); clear HB; have HB := n0_; have BK286 := n1_; have GW286 := n2_; have GE286 := n3_; clear n0_ n1_ n2_ n3_; clear hb hbox hg; have hcz109_0 : w108.cell? ⟨gb286, 0, none⟩ = some (.int .u8 a0_0) := (blk_cell BK286.out 0).trans rfl; have hcz109_1 : w108.cell? ⟨gb286, 1, none⟩ = some (.int .u8 a0_1) := (blk_cell BK286.out 1).trans rfl; have hcz109_2 : w108.cell? ⟨gb286, 2, none⟩ = some (.int .u8 a0_2) := (blk_cell BK286.out 2).trans rfl; have hcz109_3 : w108.cell? ⟨gb286, 3, none⟩ = some (.int .u32 a0_3) := (blk_cell BK286.out 3).trans rfl; have hcz109_4 : w108.cell? ⟨gb286, 4, none⟩ = some (.int .u64 a0_4) := (blk_cell BK286.out 4).trans rfl; have hfz109_0 := blk_frozen BK286.out 0; have hfz109_1 := blk_frozen BK286.out 1; have hfz109_2 := blk_frozen BK286.out 2; have hfz109_3 := blk_frozen BK286.out 3; have hfz109_4 := blk_frozen BK286.out 4))
       go_ret
       exact ⟨by first | rfl | (simp [*, errW_none, errW_some] <;> rfl), by repeat (first | (with_reducible first | exact HB.out | apply below_alloc | apply pw_below_drewN | apply below_drew1 | refine below_set ?_ GE286.out) | exact HB.out)⟩
     ·rw [if_neg c101] at H
      have c101b0 : (a0_0 == 6) = false := beq_eq_false_iff_ne.mpr c101
      have c101b1 : (a0_0 != 6) = true := bne_iff_ne.mpr c101
      by_cases c110 : a0_0 = 7
      ·rw [if_pos c110] at H
       have c110b0 : (a0_0 == 7) = true := beq_iff_eq.mpr c110
       have c110b1 : (a0_0 != 7) = false := bne_eq_false_iff_eq.mpr c110
       clear c110
       by_cases c111 : a0_1 = 0
       ·rw [if_pos c111] at H
        have c111b0 : (a0_1 == 0) = true := beq_iff_eq.mpr c111
        have c111b1 : (a0_1 != 0) = false := bne_eq_false_iff_eq.mpr c111
        clear c111
        by_cases c112 : a0_2 = 0
        ·rw [if_pos c112] at H
         have c112b0 : (a0_2 == 0) = true := beq_iff_eq.mpr c112
         have c112b1 : (a0_2 != 0) = false := bne_eq_false_iff_eq.mpr c112
         clear c112
         obtain rfl := Option.some.inj H
         go_enter Try.func41, Try.ntmps41
         go_wp2_with (first | ((with_reducible refine gate_dst (N := 1) rfl ?_); refine box_event ?hg (N := 1) ?hd (cs := #[.int .u8 a0_0, .int .u8 a0_1, .int .u8 a0_2, .int .u32 a0_3, .int .u64 a0_4]) (t := 29) ?hr ?_; (case hd => rfl); (case hg => rfl); (case hr => first | (go_simp; done) | (go_simp; rfl)); intro gb286 hg w113 hbox hb; have ⟨n0_, n2_⟩ := pkB (stb HB) hb hg; have n3_ := n2_; have n1_ := Aside0.mk (hbox); clear HB; have HB := n0_; have BK286 := n1_; have GW286 := n2_; have GE286 := n3_; clear n0_ n1_ n2_ n3_; clear hb hbox hg; have hcz114_0 : w113.cell? ⟨gb286, 0, none⟩ = some (.int .u8 a0_0) := (blk_cell BK286.out 0).trans rfl; have hcz114_1 : w113.cell? ⟨gb286, 1, none⟩ = some (.int .u8 a0_1) := (blk_cell BK286.out 1).trans rfl; have hcz114_2 : w113.cell? ⟨gb286, 2, none⟩ = some (.int .u8 a0_2) := (blk_cell BK286.out 2).trans rfl; have hcz114_3 : w113.cell? ⟨gb286, 3, none⟩ = some (.int .u32 a0_3) := (blk_cell BK286.out 3).trans rfl; have hcz114_4 : w113.cell? ⟨gb286, 4, none⟩ = some (.int .u64 a0_4) := (blk_cell BK286.out 4).trans rfl; have hfz114_0 := blk_frozen BK286.out 0; have hfz114_1 := blk_frozen BK286.out 1; have hfz114_2 := blk_frozen BK286.out 2; have hfz114_3 := blk_frozen BK286.out 3; have hfz114_4 := blk_frozen BK286.out 4))
         go_ret
         exact ⟨by first | rfl | (simp [*, errW_none, errW_some] <;> rfl), by repeat (first | (with_reducible first | exact HB.out | apply below_alloc | apply pw_below_drewN | apply below_drew1 | refine below_set ?_ GE286.out) | exact HB.out)⟩
        ·rw [if_neg c112] at H
         have c112b0 : (a0_2 == 0) = false := beq_eq_false_iff_ne.mpr c112
         have c112b1 : (a0_2 != 0) = true := bne_iff_ne.mpr c112
         obtain rfl := Option.some.inj H
         go_enter Try.func41, Try.ntmps41
         go_wp2_with (first | ((with_reducible refine gate_dst (N := 1) rfl ?_); refine box_event ?hg (N := 1) ?hd (cs := #[.int .u8 a0_0, .int .u8 a0_1, .int .u8 a0_2, .int .u32 a0_3, .int .u64 a0_4]) (t := 29) ?hr ?_; (case hd => rfl); (case hg => rfl); (case hr => first | (go_simp; done) | (go_simp; rfl)); intro gb286 hg w115 hbox hb; have ⟨n0_, n2_⟩ := pkB (stb HB) hb hg; have n3_ := n2_; have n1_ := Aside0.mk (hbox); clear HB; have HB := n0_; have BK286 := n1_; have GW286 := n2_; have GE286 := n3_; clear n0_ n1_ n2_ n3_; clear hb hbox hg; have hcz116_0 : w115.cell? ⟨gb286, 0, none⟩ = some (.int .u8 a0_0) := (blk_cell BK286.out 0).trans rfl; have hcz116_1 : w115.cell? ⟨gb286, 1, none⟩ = some (.int .u8 a0_1) := (blk_cell BK286.out 1).trans rfl; have hcz116_2 : w115.cell? ⟨gb286, 2, none⟩ = some (.int .u8 a0_2) := (blk_cell BK286.out 2).trans rfl; have hcz116_3 : w115.cell? ⟨gb286, 3, none⟩ = some (.int .u32 a0_3) := (blk_cell BK286.out 3).trans rfl; have hcz116_4 : w115.cell? ⟨gb286, 4, none⟩ = some (.int .u64 a0_4) := (blk_cell BK286.out 4).trans rfl; have hfz116_0 := blk_frozen BK286.out 0; have hfz116_1 := blk_frozen BK286.out 1; have hfz116_2 := blk_frozen BK286.out 2; have hfz116_3 := blk_frozen BK286.out 3; have hfz116_4 := blk_frozen BK286.out 4))
         go_ret
         exact ⟨by first | rfl | (simp [*, errW_none, errW_some] <;> rfl), by repeat (first | (with_reducible first | exact HB.out | apply below_alloc | apply pw_below_drewN | apply below_drew1 | refine below_set ?_ GE286.out) | exact HB.out)⟩
       ·rw [if_neg c111] at H
        have c111b0 : (a0_1 == 0) = false := beq_eq_false_iff_ne.mpr c111
        have c111b1 : (a0_1 != 0) = true := bne_iff_ne.mpr c111
        obtain rfl := Option.some.inj H
        go_enter Try.func41, Try.ntmps41
        go_wp2_with (first | ((with_reducible refine gate_dst (N := 1) rfl ?_); refine box_event ?hg (N := 1) ?hd (cs := #[.int .u8 a0_0, .int .u8 a0_1, .int .u8 a0_2, .int .u32 a0_3, .int .u64 a0_4]) (t := 29) ?hr ?_; (case hd => rfl); (case hg => rfl); (case hr => first | (go_simp; done) | (go_simp; rfl)); intro gb286 hg w117 hbox hb; have ⟨n0_, n2_⟩ := pkB (stb HB) hb hg; have n3_ := n2_; have n1_ := Aside0.mk (hbox); clear HB; have HB := n0_; have BK286 := n1_; have GW286 := n2_; have GE286 := n3_; clear n0_ n1_ n2_ n3_; clear hb hbox hg; have hcz118_0 : w117.cell? ⟨gb286, 0, none⟩ = some (.int .u8 a0_0) := (blk_cell BK286.out 0).trans rfl; have hcz118_1 : w117.cell? ⟨gb286, 1, none⟩ = some (.int .u8 a0_1) := (blk_cell BK286.out 1).trans rfl; have hcz118_2 : w117.cell? ⟨gb286, 2, none⟩ = some (.int .u8 a0_2) := (blk_cell BK286.out 2).trans rfl; have hcz118_3 : w117.cell? ⟨gb286, 3, none⟩ = some (.int .u32 a0_3) := (blk_cell BK286.out 3).trans rfl; have hcz118_4 : w117.cell? ⟨gb286, 4, none⟩ = some (.int .u64 a0_4) := (blk_cell BK286.out 4).trans rfl; have hfz118_0 := blk_frozen BK286.out 0; have hfz118_1 := blk_frozen BK286.out 1; have hfz118_2 := blk_frozen BK286.out 2; have hfz118_3 := blk_frozen BK286.out 3; have hfz118_4 := blk_frozen BK286.out 4))
        go_ret
        exact ⟨by first | rfl | (simp [*, errW_none, errW_some] <;> rfl), by repeat (first | (with_reducible first | exact HB.out | apply below_alloc | apply pw_below_drewN | apply below_drew1 | refine below_set ?_ GE286.out) | exact HB.out)⟩
      ·rw [if_neg c110] at H
       have c110b0 : (a0_0 == 7) = false := beq_eq_false_iff_ne.mpr c110
       have c110b1 : (a0_0 != 7) = true := bne_iff_ne.mpr c110
       by_cases c119 : a0_0 = 3
       ·rw [if_pos c119] at H
        have c119b0 : (a0_0 == 3) = true := beq_iff_eq.mpr c119
        have c119b1 : (a0_0 != 3) = false := bne_eq_false_iff_eq.mpr c119
        clear c119
        by_cases c120 : a0_1 = 0
        ·rw [if_pos c120] at H
         have c120b0 : (a0_1 == 0) = true := beq_iff_eq.mpr c120
         have c120b1 : (a0_1 != 0) = false := bne_eq_false_iff_eq.mpr c120
         clear c120
         obtain rfl := Option.some.inj H
         go_enter Try.func41, Try.ntmps41
         go_wp2_with (first | ((with_reducible refine gate_dst (N := 1) rfl ?_); refine box_event ?hg (N := 1) ?hd (cs := #[.int .u8 a0_0, .int .u8 a0_1, .int .u8 a0_2, .int .u32 a0_3, .int .u64 a0_4]) (t := 29) ?hr ?_; (case hd => rfl); (case hg => rfl); (case hr => first | (go_simp; done) | (go_simp; rfl)); intro gb286 hg w121 hbox hb; have ⟨n0_, n2_⟩ := pkB (stb HB) hb hg; have n3_ := n2_; have n1_ := Aside0.mk (hbox); clear HB; have HB := n0_; have BK286 := n1_; have GW286 := n2_; have GE286 := n3_; clear n0_ n1_ n2_ n3_; clear hb hbox hg; have hcz122_0 : w121.cell? ⟨gb286, 0, none⟩ = some (.int .u8 a0_0) := (blk_cell BK286.out 0).trans rfl; have hcz122_1 : w121.cell? ⟨gb286, 1, none⟩ = some (.int .u8 a0_1) := (blk_cell BK286.out 1).trans rfl; have hcz122_2 : w121.cell? ⟨gb286, 2, none⟩ = some (.int .u8 a0_2) := (blk_cell BK286.out 2).trans rfl; have hcz122_3 : w121.cell? ⟨gb286, 3, none⟩ = some (.int .u32 a0_3) := (blk_cell BK286.out 3).trans rfl; have hcz122_4 : w121.cell? ⟨gb286, 4, none⟩ = some (.int .u64 a0_4) := (blk_cell BK286.out 4).trans rfl; have hfz122_0 := blk_frozen BK286.out 0; have hfz122_1 := blk_frozen BK286.out 1; have hfz122_2 := blk_frozen BK286.out 2; have hfz122_3 := blk_frozen BK286.out 3; have hfz122_4 := blk_frozen BK286.out 4))
         go_ret
         exact ⟨by first | rfl | (simp [*, errW_none, errW_some] <;> rfl), by repeat (first | (with_reducible first | exact HB.out | apply below_alloc | apply pw_below_drewN | apply below_drew1 | refine below_set ?_ GE286.out) | exact HB.out)⟩
        ·rw [if_neg c120] at H
         have c120b0 : (a0_1 == 0) = false := beq_eq_false_iff_ne.mpr c120
         have c120b1 : (a0_1 != 0) = true := bne_iff_ne.mpr c120
         obtain rfl := Option.some.inj H
         go_enter Try.func41, Try.ntmps41
         go_wp2_with (first | ((with_reducible refine gate_dst (N := 1) rfl ?_); refine box_event ?hg (N := 1) ?hd (cs := #[.int .u8 a0_0, .int .u8 a0_1, .int .u8 a0_2, .int .u32 a0_3, .int .u64 a0_4]) (t := 29) ?hr ?_; (case hd => rfl); (case hg => rfl); (case hr => first | (go_simp; done) | (go_simp; rfl)); intro gb286 hg w123 hbox hb; have ⟨n0_, n2_⟩ := pkB (stb HB) hb hg; have n3_ := n2_; have n1_ := Aside0.mk (hbox); clear HB; have HB := n0_; have BK286 := n1_; have GW286 := n2_; have GE286 := n3_; clear n0_ n1_ n2_ n3_; clear hb hbox hg; have hcz124_0 : w123.cell? ⟨gb286, 0, none⟩ = some (.int .u8 a0_0) := (blk_cell BK286.out 0).trans rfl; have hcz124_1 : w123.cell? ⟨gb286, 1, none⟩ = some (.int .u8 a0_1) := (blk_cell BK286.out 1).trans rfl; have hcz124_2 : w123.cell? ⟨gb286, 2, none⟩ = some (.int .u8 a0_2) := (blk_cell BK286.out 2).trans rfl; have hcz124_3 : w123.cell? ⟨gb286, 3, none⟩ = some (.int .u32 a0_3) := (blk_cell BK286.out 3).trans rfl; have hcz124_4 : w123.cell? ⟨gb286, 4, none⟩ = some (.int .u64 a0_4) := (blk_cell BK286.out 4).trans rfl; have hfz124_0 := blk_frozen BK286.out 0; have hfz124_1 := blk_frozen BK286.out 1; have hfz124_2 := blk_frozen BK286.out 2; have hfz124_3 := blk_frozen BK286.out 3; have hfz124_4 := blk_frozen BK286.out 4))
         go_ret
         exact ⟨by first | rfl | (simp [*, errW_none, errW_some] <;> rfl), by repeat (first | (with_reducible first | exact HB.out | apply below_alloc | apply pw_below_drewN | apply below_drew1 | refine below_set ?_ GE286.out) | exact HB.out)⟩
       ·rw [if_neg c119] at H
        have c119b0 : (a0_0 == 3) = false := beq_eq_false_iff_ne.mpr c119
        have c119b1 : (a0_0 != 3) = true := bne_iff_ne.mpr c119
        by_cases c125 : a0_0 = 5
        ·rw [if_pos c125] at H
         have c125b0 : (a0_0 == 5) = true := beq_iff_eq.mpr c125
         have c125b1 : (a0_0 != 5) = false := bne_eq_false_iff_eq.mpr c125
         clear c125
         obtain rfl := Option.some.inj H
         go_enter Try.func41, Try.ntmps41
         go_wp2_with (first | ((with_reducible refine gate_dst (N := 1) rfl ?_); refine box_event ?hg (N := 1) ?hd (cs := #[.int .u8 a0_0, .int .u8 a0_1, .int .u8 a0_2, .int .u32 a0_3, .int .u64 a0_4]) (t := 29) ?hr ?_; (case hd => rfl); (case hg => rfl); (case hr => first | (go_simp; done) | (go_simp; rfl)); intro gb286 hg w126 hbox hb; have ⟨n0_, n2_⟩ := pkB (stb HB) hb hg; have n3_ := n2_; have n1_ := Aside0.mk (hbox); clear HB; have HB := n0_; have BK286 := n1_; have GW286 := n2_; have GE286 := n3_; clear n0_ n1_ n2_ n3_; clear hb hbox hg; have hcz127_0 : w126.cell? ⟨gb286, 0, none⟩ = some (.int .u8 a0_0) := (blk_cell BK286.out 0).trans rfl; have hcz127_1 : w126.cell? ⟨gb286, 1, none⟩ = some (.int .u8 a0_1) := (blk_cell BK286.out 1).trans rfl; have hcz127_2 : w126.cell? ⟨gb286, 2, none⟩ = some (.int .u8 a0_2) := (blk_cell BK286.out 2).trans rfl; have hcz127_3 : w126.cell? ⟨gb286, 3, none⟩ = some (.int .u32 a0_3) := (blk_cell BK286.out 3).trans rfl; have hcz127_4 : w126.cell? ⟨gb286, 4, none⟩ = some (.int .u64 a0_4) := (blk_cell BK286.out 4).trans rfl; have hfz127_0 := blk_frozen BK286.out 0; have hfz127_1 := blk_frozen BK286.out 1; have hfz127_2 := blk_frozen BK286.out 2; have hfz127_3 := blk_frozen BK286.out 3; have hfz127_4 := blk_frozen BK286.out 4))
         go_ret
         exact ⟨by first | rfl | (simp [*, errW_none, errW_some] <;> rfl), by repeat (first | (with_reducible first | exact HB.out | apply below_alloc | apply pw_below_drewN | apply below_drew1 | refine below_set ?_ GE286.out) | exact HB.out)⟩
        ·rw [if_neg c125] at H
         have c125b0 : (a0_0 == 5) = false := beq_eq_false_iff_ne.mpr c125
         have c125b1 : (a0_0 != 5) = true := bne_iff_ne.mpr c125
         by_cases c128 : a0_0 = 8
         ·rw [if_pos c128] at H
          have c128b0 : (a0_0 == 8) = true := beq_iff_eq.mpr c128
          have c128b1 : (a0_0 != 8) = false := bne_eq_false_iff_eq.mpr c128
          clear c128
          by_cases c129 : a0_2 = 0
          ·rw [if_pos c129] at H
           have c129b0 : (a0_2 == 0) = true := beq_iff_eq.mpr c129
           have c129b1 : (a0_2 != 0) = false := bne_eq_false_iff_eq.mpr c129
           clear c129
           obtain rfl := Option.some.inj H
           go_enter Try.func41, Try.ntmps41
           go_wp2_with (first | ((with_reducible refine gate_dst (N := 1) rfl ?_); refine box_event ?hg (N := 1) ?hd (cs := #[.int .u8 a0_0, .int .u8 a0_1, .int .u8 a0_2, .int .u32 a0_3, .int .u64 a0_4]) (t := 29) ?hr ?_; (case hd => rfl); (case hg => rfl); (case hr => first | (go_simp; done) | (go_simp; rfl)); intro gb286 hg w130 hbox hb; have ⟨n0_, n2_⟩ := pkB (stb HB) hb hg; have n3_ := n2_; have n1_ := Aside0.mk (hbox); clear HB; have HB := n0_; have BK286 := n1_; have GW286 := n2_; have GE286 := n3_; clear n0_ n1_ n2_ n3_; clear hb hbox hg; have hcz131_0 : w130.cell? ⟨gb286, 0, none⟩ = some (.int .u8 a0_0) := (blk_cell BK286.out 0).trans rfl; have hcz131_1 : w130.cell? ⟨gb286, 1, none⟩ = some (.int .u8 a0_1) := (blk_cell BK286.out 1).trans rfl; have hcz131_2 : w130.cell? ⟨gb286, 2, none⟩ = some (.int .u8 a0_2) := (blk_cell BK286.out 2).trans rfl; have hcz131_3 : w130.cell? ⟨gb286, 3, none⟩ = some (.int .u32 a0_3) := (blk_cell BK286.out 3).trans rfl; have hcz131_4 : w130.cell? ⟨gb286, 4, none⟩ = some (.int .u64 a0_4) := (blk_cell BK286.out 4).trans rfl; have hfz131_0 := blk_frozen BK286.out 0; have hfz131_1 := blk_frozen BK286.out 1; have hfz131_2 := blk_frozen BK286.out 2; have hfz131_3 := blk_frozen BK286.out 3; have hfz131_4 := blk_frozen BK286.out 4))
           go_ret
           exact ⟨by first | rfl | (simp [*, errW_none, errW_some] <;> rfl), by repeat (first | (with_reducible first | exact HB.out | apply below_alloc | apply pw_below_drewN | apply below_drew1 | refine below_set ?_ GE286.out) | exact HB.out)⟩
          ·rw [if_neg c129] at H
           have c129b0 : (a0_2 == 0) = false := beq_eq_false_iff_ne.mpr c129
           have c129b1 : (a0_2 != 0) = true := bne_iff_ne.mpr c129
           obtain rfl := Option.some.inj H
           go_enter Try.func41, Try.ntmps41
           go_wp2_with (first | ((with_reducible refine gate_dst (N := 1) rfl ?_); refine box_event ?hg (N := 1) ?hd (cs := #[.int .u8 a0_0, .int .u8 a0_1, .int .u8 a0_2, .int .u32 a0_3, .int .u64 a0_4]) (t := 29) ?hr ?_; (case hd => rfl); (case hg => rfl); (case hr => first | (go_simp; done) | (go_simp; rfl)); intro gb286 hg w132 hbox hb; have ⟨n0_, n2_⟩ := pkB (stb HB) hb hg; have n3_ := n2_; have n1_ := Aside0.mk (hbox); clear HB; have HB := n0_; have BK286 := n1_; have GW286 := n2_; have GE286 := n3_; clear n0_ n1_ n2_ n3_; clear hb hbox hg; have hcz133_0 : w132.cell? ⟨gb286, 0, none⟩ = some (.int .u8 a0_0) := (blk_cell BK286.out 0).trans rfl; have hcz133_1 : w132.cell? ⟨gb286, 1, none⟩ = some (.int .u8 a0_1) := (blk_cell BK286.out 1).trans rfl; have hcz133_2 : w132.cell? ⟨gb286, 2, none⟩ = some (.int .u8 a0_2) := (blk_cell BK286.out 2).trans rfl; have hcz133_3 : w132.cell? ⟨gb286, 3, none⟩ = some (.int .u32 a0_3) := (blk_cell BK286.out 3).trans rfl; have hcz133_4 : w132.cell? ⟨gb286, 4, none⟩ = some (.int .u64 a0_4) := (blk_cell BK286.out 4).trans rfl; have hfz133_0 := blk_frozen BK286.out 0; have hfz133_1 := blk_frozen BK286.out 1; have hfz133_2 := blk_frozen BK286.out 2; have hfz133_3 := blk_frozen BK286.out 3; have hfz133_4 := blk_frozen BK286.out 4))
           go_ret
           exact ⟨by first | rfl | (simp [*, errW_none, errW_some] <;> rfl), by repeat (first | (with_reducible first | exact HB.out | apply below_alloc | apply pw_below_drewN | apply below_drew1 | refine below_set ?_ GE286.out) | exact HB.out)⟩
         ·rw [if_neg c128] at H
          have c128b0 : (a0_0 == 8) = false := beq_eq_false_iff_ne.mpr c128
          have c128b1 : (a0_0 != 8) = true := bne_iff_ne.mpr c128
          by_cases c134 : a0_0 = 9
          ·rw [if_pos c134] at H
           have c134b0 : (a0_0 == 9) = true := beq_iff_eq.mpr c134
           have c134b1 : (a0_0 != 9) = false := bne_eq_false_iff_eq.mpr c134
           clear c134
           by_cases c135 : a0_1 = 0
           ·rw [if_pos c135] at H
            have c135b0 : (a0_1 == 0) = true := beq_iff_eq.mpr c135
            have c135b1 : (a0_1 != 0) = false := bne_eq_false_iff_eq.mpr c135
            clear c135
            by_cases c136 : a0_2 = 0
            ·rw [if_pos c136] at H
             have c136b0 : (a0_2 == 0) = true := beq_iff_eq.mpr c136
             have c136b1 : (a0_2 != 0) = false := bne_eq_false_iff_eq.mpr c136
             clear c136
             by_cases c137 : a0_3 = 0
             ·rw [if_pos c137] at H
              have c137b0 : (a0_3 == 0) = true := beq_iff_eq.mpr c137
              have c137b1 : (a0_3 != 0) = false := bne_eq_false_iff_eq.mpr c137
              clear c137
              obtain rfl := Option.some.inj H
              go_enter Try.func41, Try.ntmps41
              go_wp2_with (first | ((with_reducible refine gate_dst (N := 1) rfl ?_); refine box_event ?hg (N := 1) ?hd (cs := #[.int .u8 a0_0, .int .u8 a0_1, .int .u8 a0_2, .int .u32 a0_3, .int .u64 a0_4]) (t := 29) ?hr ?_; (case hd => rfl); (case hg => rfl); (case hr => first | (go_simp; done) | (go_simp; rfl)); intro gb286 hg w138 hbox hb; have ⟨n0_, n2_⟩ := pkB (stb HB) hb hg; have n3_ := n2_; have n1_ := Aside0.mk (hbox); clear HB; have HB := n0_; have BK286 := n1_; have GW286 := n2_; have GE286 := n3_; clear n0_ n1_ n2_ n3_; clear hb hbox hg; have hcz139_0 : w138.cell? ⟨gb286, 0, none⟩ = some (.int .u8 a0_0) := (blk_cell BK286.out 0).trans rfl; have hcz139_1 : w138.cell? ⟨gb286, 1, none⟩ = some (.int .u8 a0_1) := (blk_cell BK286.out 1).trans rfl; have hcz139_2 : w138.cell? ⟨gb286, 2, none⟩ = some (.int .u8 a0_2) := (blk_cell BK286.out 2).trans rfl; have hcz139_3 : w138.cell? ⟨gb286, 3, none⟩ = some (.int .u32 a0_3) := (blk_cell BK286.out 3).trans rfl; have hcz139_4 : w138.cell? ⟨gb286, 4, none⟩ = some (.int .u64 a0_4) := (blk_cell BK286.out 4).trans rfl; have hfz139_0 := blk_frozen BK286.out 0; have hfz139_1 := blk_frozen BK286.out 1; have hfz139_2 := blk_frozen BK286.out 2; have hfz139_3 := blk_frozen BK286.out 3; have hfz139_4 := blk_frozen BK286.out 4))
              go_ret
              exact ⟨by first | rfl | (simp [*, errW_none, errW_some] <;> rfl), by repeat (first | (with_reducible first | exact HB.out | apply below_alloc | apply pw_below_drewN | apply below_drew1 | refine below_set ?_ GE286.out) | exact HB.out)⟩
             ·rw [if_neg c137] at H
              have c137b0 : (a0_3 == 0) = false := beq_eq_false_iff_ne.mpr c137
              have c137b1 : (a0_3 != 0) = true := bne_iff_ne.mpr c137
              obtain rfl := Option.some.inj H
              go_enter Try.func41, Try.ntmps41
              go_wp2_with (first | ((with_reducible refine gate_dst (N := 1) rfl ?_); refine box_event ?hg (N := 1) ?hd (cs := #[.int .u8 a0_0, .int .u8 a0_1, .int .u8 a0_2, .int .u32 a0_3, .int .u64 a0_4]) (t := 29) ?hr ?_; (case hd => rfl); (case hg => rfl); (case hr => first | (go_simp; done) | (go_simp; rfl)); intro gb286 hg w140 hbox hb; have ⟨n0_, n2_⟩ := pkB (stb HB) hb hg; have n3_ := n2_; have n1_ := Aside0.mk (hbox); clear HB; have HB := n0_; have BK286 := n1_; have GW286 := n2_; have GE286 := n3_; clear n0_ n1_ n2_ n3_; clear hb hbox hg; have hcz141_0 : w140.cell? ⟨gb286, 0, none⟩ = some (.int .u8 a0_0) := (blk_cell BK286.out 0).trans rfl; have hcz141_1 : w140.cell? ⟨gb286, 1, none⟩ = some (.int .u8 a0_1) := (blk_cell BK286.out 1).trans rfl; have hcz141_2 : w140.cell? ⟨gb286, 2, none⟩ = some (.int .u8 a0_2) := (blk_cell BK286.out 2).trans rfl; have hcz141_3 : w140.cell? ⟨gb286, 3, none⟩ = some (.int .u32 a0_3) := (blk_cell BK286.out 3).trans rfl; have hcz141_4 : w140.cell? ⟨gb286, 4, none⟩ = some (.int .u64 a0_4) := (blk_cell BK286.out 4).trans rfl; have hfz141_0 := blk_frozen BK286.out 0; have hfz141_1 := blk_frozen BK286.out 1; have hfz141_2 := blk_frozen BK286.out 2; have hfz141_3 := blk_frozen BK286.out 3; have hfz141_4 := blk_frozen BK286.out 4))
              go_ret
              exact ⟨by first | rfl | (simp [*, errW_none, errW_some] <;> rfl), by repeat (first | (with_reducible first | exact HB.out | apply below_alloc | apply pw_below_drewN | apply below_drew1 | refine below_set ?_ GE286.out) | exact HB.out)⟩
            ·rw [if_neg c136] at H
             have c136b0 : (a0_2 == 0) = false := beq_eq_false_iff_ne.mpr c136
             have c136b1 : (a0_2 != 0) = true := bne_iff_ne.mpr c136
             obtain rfl := Option.some.inj H
             go_enter Try.func41, Try.ntmps41
             go_wp2_with (first | ((with_reducible refine gate_dst (N := 1) rfl ?_); refine box_event ?hg (N := 1) ?hd (cs := #[.int .u8 a0_0, .int .u8 a0_1, .int .u8 a0_2, .int .u32 a0_3, .int .u64 a0_4]) (t := 29) ?hr ?_; (case hd => rfl); (case hg => rfl); (case hr => first | (go_simp; done) | (go_simp; rfl)); intro gb286 hg w142 hbox hb; have ⟨n0_, n2_⟩ := pkB (stb HB) hb hg; have n3_ := n2_; have n1_ := Aside0.mk (hbox); clear HB; have HB := n0_; have BK286 := n1_; have GW286 := n2_; have GE286 := n3_; clear n0_ n1_ n2_ n3_; clear hb hbox hg; have hcz143_0 : w142.cell? ⟨gb286, 0, none⟩ = some (.int .u8 a0_0) := (blk_cell BK286.out 0).trans rfl; have hcz143_1 : w142.cell? ⟨gb286, 1, none⟩ = some (.int .u8 a0_1) := (blk_cell BK286.out 1).trans rfl; have hcz143_2 : w142.cell? ⟨gb286, 2, none⟩ = some (.int .u8 a0_2) := (blk_cell BK286.out 2).trans rfl; have hcz143_3 : w142.cell? ⟨gb286, 3, none⟩ = some (.int .u32 a0_3) := (blk_cell BK286.out 3).trans rfl; have hcz143_4 : w142.cell? ⟨gb286, 4, none⟩ = some (.int .u64 a0_4) := (blk_cell BK286.out 4).trans rfl; have hfz143_0 := blk_frozen BK286.out 0; have hfz143_1 := blk_frozen BK286.out 1; have hfz143_2 := blk_frozen BK286.out 2; have hfz143_3 := blk_frozen BK286.out 3; have hfz143_4 := blk_frozen BK286.out 4))
             go_ret
             exact ⟨by first | rfl | (simp [*, errW_none, errW_some] <;> rfl), by repeat (first | (with_reducible first | exact HB.out | apply below_alloc | apply pw_below_drewN | apply below_drew1 | refine below_set ?_ GE286.out) | exact HB.out)⟩
           ·rw [if_neg c135] at H
            have c135b0 : (a0_1 == 0) = false := beq_eq_false_iff_ne.mpr c135
            have c135b1 : (a0_1 != 0) = true := bne_iff_ne.mpr c135
            obtain rfl := Option.some.inj H
            go_enter Try.func41, Try.ntmps41
            go_wp2_with (first | ((with_reducible refine gate_dst (N := 1) rfl ?_); refine box_event ?hg (N := 1) ?hd (cs := #[.int .u8 a0_0, .int .u8 a0_1, .int .u8 a0_2, .int .u32 a0_3, .int .u64 a0_4]) (t := 29) ?hr ?_; (case hd => rfl); (case hg => rfl); (case hr => first | (go_simp; done) | (go_simp; rfl)); intro gb286 hg w144 hbox hb; have ⟨n0_, n2_⟩ := pkB (stb HB) hb hg; have n3_ := n2_; have n1_ := Aside0.mk (hbox); clear HB; have HB := n0_; have BK286 := n1_; have GW286 := n2_; have GE286 := n3_; clear n0_ n1_ n2_ n3_; clear hb hbox hg; have hcz145_0 : w144.cell? ⟨gb286, 0, none⟩ = some (.int .u8 a0_0) := (blk_cell BK286.out 0).trans rfl; have hcz145_1 : w144.cell? ⟨gb286, 1, none⟩ = some (.int .u8 a0_1) := (blk_cell BK286.out 1).trans rfl; have hcz145_2 : w144.cell? ⟨gb286, 2, none⟩ = some (.int .u8 a0_2) := (blk_cell BK286.out 2).trans rfl; have hcz145_3 : w144.cell? ⟨gb286, 3, none⟩ = some (.int .u32 a0_3) := (blk_cell BK286.out 3).trans rfl; have hcz145_4 : w144.cell? ⟨gb286, 4, none⟩ = some (.int .u64 a0_4) := (blk_cell BK286.out 4).trans rfl; have hfz145_0 := blk_frozen BK286.out 0; have hfz145_1 := blk_frozen BK286.out 1; have hfz145_2 := blk_frozen BK286.out 2; have hfz145_3 := blk_frozen BK286.out 3; have hfz145_4 := blk_frozen BK286.out 4))
            go_ret
            exact ⟨by first | rfl | (simp [*, errW_none, errW_some] <;> rfl), by repeat (first | (with_reducible first | exact HB.out | apply below_alloc | apply pw_below_drewN | apply below_drew1 | refine below_set ?_ GE286.out) | exact HB.out)⟩
          ·rw [if_neg c134] at H
           have c134b0 : (a0_0 == 9) = false := beq_eq_false_iff_ne.mpr c134
           have c134b1 : (a0_0 != 9) = true := bne_iff_ne.mpr c134
           obtain rfl := Option.some.inj H
           go_enter Try.func41, Try.ntmps41
           go_wp2_with (first | ((with_reducible refine gate_dst (N := 1) rfl ?_); refine box_event ?hg (N := 1) ?hd (cs := #[.int .u8 a0_0, .int .u8 a0_1, .int .u8 a0_2, .int .u32 a0_3, .int .u64 a0_4]) (t := 29) ?hr ?_; (case hd => rfl); (case hg => rfl); (case hr => first | (go_simp; done) | (go_simp; rfl)); intro gb286 hg w146 hbox hb; have ⟨n0_, n2_⟩ := pkB (stb HB) hb hg; have n3_ := n2_; have n1_ := Aside0.mk (hbox); clear HB; have HB := n0_; have BK286 := n1_; have GW286 := n2_; have GE286 := n3_; clear n0_ n1_ n2_ n3_; clear hb hbox hg; have hcz147_0 : w146.cell? ⟨gb286, 0, none⟩ = some (.int .u8 a0_0) := (blk_cell BK286.out 0).trans rfl; have hcz147_1 : w146.cell? ⟨gb286, 1, none⟩ = some (.int .u8 a0_1) := (blk_cell BK286.out 1).trans rfl; have hcz147_2 : w146.cell? ⟨gb286, 2, none⟩ = some (.int .u8 a0_2) := (blk_cell BK286.out 2).trans rfl; have hcz147_3 : w146.cell? ⟨gb286, 3, none⟩ = some (.int .u32 a0_3) := (blk_cell BK286.out 3).trans rfl; have hcz147_4 : w146.cell? ⟨gb286, 4, none⟩ = some (.int .u64 a0_4) := (blk_cell BK286.out 4).trans rfl; have hfz147_0 := blk_frozen BK286.out 0; have hfz147_1 := blk_frozen BK286.out 1; have hfz147_2 := blk_frozen BK286.out 2; have hfz147_3 := blk_frozen BK286.out 3; have hfz147_4 := blk_frozen BK286.out 4))
           go_ret
           exact ⟨by first | rfl | (simp [*, errW_none, errW_some] <;> rfl), by repeat (first | (with_reducible first | exact HB.out | apply below_alloc | apply pw_below_drewN | apply below_drew1 | refine below_set ?_ GE286.out) | exact HB.out)⟩

end Go.Proofs.Ytkkgnmfahhkajaa.Q
