-- Printed by a program of this session (wip/tools: the kit's printer, with functions proved by hand let in).
import Derived.Test.YtkkgnmfahhkajaaV
import Derived.Test.YtkkgnmfahhkajaaQx0
import Derived.Test.YtkkgnmfahhkajaaQx9
namespace Go.Proofs.Ytkkgnmfahhkajaa.Q
open Go.RowKit Go.Proofs.YtkkgnmfahhkajaaW.PrintWords Go.Proofs.YtkkgnmfahhkajaaW.PrintLast Go.Proofs.YtkkgnmfahhkajaaW.PrintMore
attribute [local go_sem] max2_int min2_int max_two min_two max_three min_three max_four min_four   -- for this text's walks alone
set_option linter.unusedVariables false
set_option linter.unusedSimpArgs false

/-! ### rampartref18_Check: function 21 -/
def rampartref18_Check.l0 : Nat → Int → Int → Int → List (S42) → Option (Int)
 | 0, _, _, _, _ => none
 | k + 1, x3, x299000, x299001, x299002 => if x3 < (x299002.length : Int) then (if 0 ≤ x3 then ((rampartref17_Left.f k ((rd_T42 x299002 x3).f0) ((rd_T42 x299002 x3).f1.f0) ((rd_T42 x299002 x3).f1.f1) ((rd_T42 x299002 x3).f1.f2) ((rd_T42 x299002 x3).f1.f3) ((rd_T42 x299002 x3).f1.f4) ((rd_T42 x299002 x3).f2) ((rd_T42 x299002 x3).f3) ((rd_T42 x299002 x3).f4) ((rd_T42 x299002 x3).f5.f0) ((rd_T42 x299002 x3).f5.f1) ((rd_T42 x299002 x3).f6)).bind fun t300 => (if t300 = 0 then (some 180) else (if ((rd_T42 x299002 x3).f0) ≥ x299001 then (some 180) else (if x3 > 0 then (if 0 ≤ (wrap64 (x3 - 1)) then (if (wrap64 (x3 - 1)) < (x299002.length : Int) then (if ((rd_T42 x299002 (wrap64 (x3 - 1))).f0) ≥ ((rd_T42 x299002 x3).f0) then (some 180) else (rampartref18_Check.l0 k (wrap64 (x3 + 1)) x299000 x299001 x299002)) else (none)) else (none)) else (rampartref18_Check.l0 k (wrap64 (x3 + 1)) x299000 x299001 x299002))))) else (none)) else (some 0)
def rampartref18_Check.f (k : Nat) (a0_0 : Int) (a0_1 : Int) (l0_2 : List (S42)) : Option (Int) := if a0_0 < 1 then (some 180) else (if a0_0 > 4 then (some 180) else (if a0_1 < 1 then (some 180) else (if a0_1 > 1099511627776 then (some 180) else (if (l0_2.length : Int) > a0_0 then (some 180) else (rampartref18_Check.l0 k 0 a0_0 a0_1 l0_2)))))
set_option maxHeartbeats 8000000 in
set_option maxRecDepth 100000 in
theorem rampartref18_Check.calls (k : Nat) (a0_0 : Int) (a0_1 : Int) (A0_2 : Option Addr) (c0_2 : Nat) (l0_2 : List (S42)) (r : Int) (w : World) (hr0_2 : Kd.C k42 w A0_2 l0_2.length l0_2) (hc0_2 : l0_2.length ≤ c0_2) (h : rampartref18_Check.f k a0_0 a0_1 l0_2 = some r) :
  Calls Try.prog 21 #[.agg #[.int .i64 a0_0, .int .i64 a0_1, .slice A0_2 l0_2.length c0_2]] w fun e w' => e = .returned (.int .i64 r) ∧ Below w.heap.size w w' := by
 have hu24 := Try.underlying24
 have hu42 := Try.underlying42
 have HR0_2 := Aside0.mk hr0_2
 have HC0_2 := Aside0.mk hc0_2
 clear hr0_2 hc0_2
 have HB := Aside0.mk (Below.refl w.heap.size w)
 have H : (if a0_0 < 1 then (some 180) else (if a0_0 > 4 then (some 180) else (if a0_1 < 1 then (some 180) else (if a0_1 > 1099511627776 then (some 180) else (if (l0_2.length : Int) > a0_0 then (some 180) else (rampartref18_Check.l0 k 0 a0_0 a0_1 l0_2)))))) = some r := h
 clear h
 by_cases c2 : a0_0 < 1
 ·rw [if_pos c2] at H
  have c2b0 : decide (a0_0 < 1) = true := decide_eq_true c2
  clear c2
  obtain rfl := Option.some.inj H
  go_enter Try.func21, Try.ntmps21
  go_wp2_with (first | ((with_reducible refine gate_dst (N := 1) rfl ?_); (try (refine gate_guard (by rfl) ?_; dsimp only)); refine box_event ?hg (N := 1) ?hd (cs := #[.int .i64 a0_0, .int .i64 a0_1, .slice A0_2 l0_2.length c0_2]) (t := 24) ?hr ?_; (case hd => rfl); (case hg => rfl); (case hr => first | (go_simp; done) | (go_simp; rfl)); intro gb298 hg w3 hbox hb; have ⟨n0_, n2_⟩ := pkB (stb HB) hb hg; have n3_ := n2_; have n1_ := Aside0.mk (hbox); clear HB; have HB := n0_; have BK298 := n1_; have GW298 := n2_; have GE298 := n3_; clear n0_ n1_ n2_ n3_; clear hb hbox hg; have hcz4_0 : w3.cell? ⟨gb298, 0, none⟩ = some (.int .i64 a0_0) := (blk_cell BK298.out 0).trans rfl; have hcz4_1 : w3.cell? ⟨gb298, 1, none⟩ = some (.int .i64 a0_1) := (blk_cell BK298.out 1).trans rfl; have hcz4_2 : w3.cell? ⟨gb298, 2, none⟩ = some (.slice A0_2 l0_2.length c0_2) := (blk_cell BK298.out 2).trans rfl; have hfz4_0 := blk_frozen BK298.out 0; have hfz4_1 := blk_frozen BK298.out 1; have hfz4_2 := blk_frozen BK298.out 2))
  go_ret
  exact ⟨by first | rfl | (simp [*, errW_none, errW_some] <;> rfl), by repeat (first | (with_reducible first | exact HB.out | apply below_alloc | apply pw_below_drewN | apply below_drew1 | refine below_set ?_ GE298.out) | exact HB.out)⟩
 ·rw [if_neg c2] at H
  have c2b0 : decide (a0_0 < 1) = false := decide_eq_false c2
  clear c2
  by_cases c5 : a0_0 > 4
  ·rw [if_pos c5] at H
   have c5b0 : decide (4 < a0_0) = true := decide_eq_true c5
   clear c5
   obtain rfl := Option.some.inj H
   go_enter Try.func21, Try.ntmps21
   go_wp2_with (first | ((with_reducible refine gate_dst (N := 1) rfl ?_); (try (refine gate_guard (by rfl) ?_; dsimp only)); refine box_event ?hg (N := 1) ?hd (cs := #[.int .i64 a0_0, .int .i64 a0_1, .slice A0_2 l0_2.length c0_2]) (t := 24) ?hr ?_; (case hd => rfl); (case hg => rfl); (case hr => first | (go_simp; done) | (go_simp; rfl)); intro gb298 hg w6 hbox hb; have ⟨n0_, n2_⟩ := pkB (stb HB) hb hg; have n3_ := n2_; have n1_ := Aside0.mk (hbox); clear HB; have HB := n0_; have BK298 := n1_; have GW298 := n2_; have GE298 := n3_; clear n0_ n1_ n2_ n3_; clear hb hbox hg; have hcz7_0 : w6.cell? ⟨gb298, 0, none⟩ = some (.int .i64 a0_0) := (blk_cell BK298.out 0).trans rfl; have hcz7_1 : w6.cell? ⟨gb298, 1, none⟩ = some (.int .i64 a0_1) := (blk_cell BK298.out 1).trans rfl; have hcz7_2 : w6.cell? ⟨gb298, 2, none⟩ = some (.slice A0_2 l0_2.length c0_2) := (blk_cell BK298.out 2).trans rfl; have hfz7_0 := blk_frozen BK298.out 0; have hfz7_1 := blk_frozen BK298.out 1; have hfz7_2 := blk_frozen BK298.out 2))
   go_ret
   exact ⟨by first | rfl | (simp [*, errW_none, errW_some] <;> rfl), by repeat (first | (with_reducible first | exact HB.out | apply below_alloc | apply pw_below_drewN | apply below_drew1 | refine below_set ?_ GE298.out) | exact HB.out)⟩
  ·rw [if_neg c5] at H
   have c5b0 : decide (4 < a0_0) = false := decide_eq_false c5
   clear c5
   by_cases c8 : a0_1 < 1
   ·rw [if_pos c8] at H
    have c8b0 : decide (a0_1 < 1) = true := decide_eq_true c8
    clear c8
    obtain rfl := Option.some.inj H
    go_enter Try.func21, Try.ntmps21
    go_wp2_with (first | ((with_reducible refine gate_dst (N := 1) rfl ?_); (try (refine gate_guard (by rfl) ?_; dsimp only)); refine box_event ?hg (N := 1) ?hd (cs := #[.int .i64 a0_0, .int .i64 a0_1, .slice A0_2 l0_2.length c0_2]) (t := 24) ?hr ?_; (case hd => rfl); (case hg => rfl); (case hr => first | (go_simp; done) | (go_simp; rfl)); intro gb298 hg w9 hbox hb; have ⟨n0_, n2_⟩ := pkB (stb HB) hb hg; have n3_ := n2_; have n1_ := Aside0.mk (hbox); clear HB; have HB := n0_; have BK298 := n1_; have GW298 := n2_; have GE298 := n3_; clear n0_ n1_ n2_ n3_; clear hb hbox hg; have hcz10_0 : w9.cell? ⟨gb298, 0, none⟩ = some (.int .i64 a0_0) := (blk_cell BK298.out 0).trans rfl; have hcz10_1 : w9.cell? ⟨gb298, 1, none⟩ = some (.int .i64 a0_1) := (blk_cell BK298.out 1).trans rfl; have hcz10_2 : w9.cell? ⟨gb298, 2, none⟩ = some (.slice A0_2 l0_2.length c0_2) := (blk_cell BK298.out 2).trans rfl; have hfz10_0 := blk_frozen BK298.out 0; have hfz10_1 := blk_frozen BK298.out 1; have hfz10_2 := blk_frozen BK298.out 2))
    go_ret
    exact ⟨by first | rfl | (simp [*, errW_none, errW_some] <;> rfl), by repeat (first | (with_reducible first | exact HB.out | apply below_alloc | apply pw_below_drewN | apply below_drew1 | refine below_set ?_ GE298.out) | exact HB.out)⟩
   ·rw [if_neg c8] at H
    have c8b0 : decide (a0_1 < 1) = false := decide_eq_false c8
    clear c8
    by_cases c11 : a0_1 > 1099511627776
    ·rw [if_pos c11] at H
     have c11b0 : decide (1099511627776 < a0_1) = true := decide_eq_true c11
     clear c11
     obtain rfl := Option.some.inj H
     go_enter Try.func21, Try.ntmps21
     go_wp2_with (first | ((with_reducible refine gate_dst (N := 1) rfl ?_); (try (refine gate_guard (by rfl) ?_; dsimp only)); refine box_event ?hg (N := 1) ?hd (cs := #[.int .i64 a0_0, .int .i64 a0_1, .slice A0_2 l0_2.length c0_2]) (t := 24) ?hr ?_; (case hd => rfl); (case hg => rfl); (case hr => first | (go_simp; done) | (go_simp; rfl)); intro gb298 hg w12 hbox hb; have ⟨n0_, n2_⟩ := pkB (stb HB) hb hg; have n3_ := n2_; have n1_ := Aside0.mk (hbox); clear HB; have HB := n0_; have BK298 := n1_; have GW298 := n2_; have GE298 := n3_; clear n0_ n1_ n2_ n3_; clear hb hbox hg; have hcz13_0 : w12.cell? ⟨gb298, 0, none⟩ = some (.int .i64 a0_0) := (blk_cell BK298.out 0).trans rfl; have hcz13_1 : w12.cell? ⟨gb298, 1, none⟩ = some (.int .i64 a0_1) := (blk_cell BK298.out 1).trans rfl; have hcz13_2 : w12.cell? ⟨gb298, 2, none⟩ = some (.slice A0_2 l0_2.length c0_2) := (blk_cell BK298.out 2).trans rfl; have hfz13_0 := blk_frozen BK298.out 0; have hfz13_1 := blk_frozen BK298.out 1; have hfz13_2 := blk_frozen BK298.out 2))
     go_ret
     exact ⟨by first | rfl | (simp [*, errW_none, errW_some] <;> rfl), by repeat (first | (with_reducible first | exact HB.out | apply below_alloc | apply pw_below_drewN | apply below_drew1 | refine below_set ?_ GE298.out) | exact HB.out)⟩
    ·rw [if_neg c11] at H
     have c11b0 : decide (1099511627776 < a0_1) = false := decide_eq_false c11
     clear c11
     by_cases c14 : (l0_2.length : Int) > a0_0
     ·rw [if_pos c14] at H
      have c14b0 : decide (a0_0 < (l0_2.length : Int)) = true := decide_eq_true c14
      clear c14
      obtain rfl := Option.some.inj H
      go_enter Try.func21, Try.ntmps21
      go_wp2_with (first | ((with_reducible refine gate_dst (N := 1) rfl ?_); (try (refine gate_guard (by rfl) ?_; dsimp only)); refine box_event ?hg (N := 1) ?hd (cs := #[.int .i64 a0_0, .int .i64 a0_1, .slice A0_2 l0_2.length c0_2]) (t := 24) ?hr ?_; (case hd => rfl); (case hg => rfl); (case hr => first | (go_simp; done) | (go_simp; rfl)); intro gb298 hg w15 hbox hb; have ⟨n0_, n2_⟩ := pkB (stb HB) hb hg; have n3_ := n2_; have n1_ := Aside0.mk (hbox); clear HB; have HB := n0_; have BK298 := n1_; have GW298 := n2_; have GE298 := n3_; clear n0_ n1_ n2_ n3_; clear hb hbox hg; have hcz16_0 : w15.cell? ⟨gb298, 0, none⟩ = some (.int .i64 a0_0) := (blk_cell BK298.out 0).trans rfl; have hcz16_1 : w15.cell? ⟨gb298, 1, none⟩ = some (.int .i64 a0_1) := (blk_cell BK298.out 1).trans rfl; have hcz16_2 : w15.cell? ⟨gb298, 2, none⟩ = some (.slice A0_2 l0_2.length c0_2) := (blk_cell BK298.out 2).trans rfl; have hfz16_0 := blk_frozen BK298.out 0; have hfz16_1 := blk_frozen BK298.out 1; have hfz16_2 := blk_frozen BK298.out 2))
      go_ret
      exact ⟨by first | rfl | (simp [*, errW_none, errW_some] <;> rfl), by repeat (first | (with_reducible first | exact HB.out | apply below_alloc | apply pw_below_drewN | apply below_drew1 | refine below_set ?_ GE298.out) | exact HB.out)⟩
     ·rw [if_neg c14] at H
      have c14b0 : decide (a0_0 < (l0_2.length : Int)) = false := decide_eq_false c14
      clear c14
      have H' := Aside0.mk H
      clear H
      go_enter Try.func21, Try.ntmps21
      go_wp2_with (first | ((with_reducible refine gate_dst (N := 1) rfl ?_); (try (refine gate_guard (by rfl) ?_; dsimp only)); refine box_event ?hg (N := 1) ?hd (cs := #[.int .i64 a0_0, .int .i64 a0_1, .slice A0_2 l0_2.length c0_2]) (t := 24) ?hr ?_; (case hd => rfl); (case hg => rfl); (case hr => first | (go_simp; done) | (go_simp; rfl)); intro gb298 hg w17 hbox hb; have ⟨n0_, n2_⟩ := pkB (stb HB) hb hg; have n3_ := n2_; have n1_ := Aside0.mk (hbox); clear HB; have HB := n0_; have BK298 := n1_; have GW298 := n2_; have GE298 := n3_; clear n0_ n1_ n2_ n3_; clear hb hbox hg; have hcz18_0 : w17.cell? ⟨gb298, 0, none⟩ = some (.int .i64 a0_0) := (blk_cell BK298.out 0).trans rfl; have hcz18_1 : w17.cell? ⟨gb298, 1, none⟩ = some (.int .i64 a0_1) := (blk_cell BK298.out 1).trans rfl; have hcz18_2 : w17.cell? ⟨gb298, 2, none⟩ = some (.slice A0_2 l0_2.length c0_2) := (blk_cell BK298.out 2).trans rfl; have hfz18_0 := blk_frozen BK298.out 0; have hfz18_1 := blk_frozen BK298.out 1; have hfz18_2 := blk_frozen BK298.out 2))
      go_loopg [3] k (fun kq v3 w' => ∃ (x3_1 : Int), v3 = .int .i64 x3_1 ∧ Aside0 (rampartref18_Check.l0 kq x3_1 a0_0 a0_1 l0_2 = some r) ∧ Aside0 (kq ≤ k) ∧ Aside0 (w'.heap[gb298]? = some (.cells #[.int .i64 a0_0, .int .i64 a0_1, (.slice A0_2 l0_2.length c0_2)] 24 (0, 0))) ∧ Aside0 (Below w.heap.size w w'))
      case atStart => exact ⟨(0), (by first | rfl | (simp; done) | (simp [*]; done)), H', ⟨Nat.le_refl _⟩, ⟨stp BK298⟩, ⟨by repeat (first | (with_reducible first | exact HB.out | apply below_alloc | apply pw_below_drewN | apply below_drew1 | refine below_set ?_ GE298.out) | exact HB.out)⟩⟩
      case round =>
       clear H'
       try clear c1
       try clear c2
       try clear c2b0
       try clear p2
       try clear c5
       try clear c5b0
       try clear c8
       try clear c8b0
       try clear c11
       try clear c11b0
       try clear c14
       try clear c14b0
       try clear hcz10_0
       try clear hcz10_1
       try clear hcz10_2
       try clear hcz13_0
       try clear hcz13_1
       try clear hcz13_2
       try clear hcz16_0
       try clear hcz16_1
       try clear hcz16_2
       try clear hcz18_0
       try clear hcz18_1
       try clear hcz18_2
       try clear hcz4_0
       try clear hcz4_1
       try clear hcz4_2
       try clear hcz7_0
       try clear hcz7_1
       try clear hcz7_2
       try clear hfz10_0
       try clear hfz10_1
       try clear hfz10_2
       try clear hfz13_0
       try clear hfz13_1
       try clear hfz13_2
       try clear hfz16_0
       try clear hfz16_1
       try clear hfz16_2
       try clear hfz18_0
       try clear hfz18_1
       try clear hfz18_2
       try clear hfz4_0
       try clear hfz4_1
       try clear hfz4_2
       try clear hfz7_0
       try clear hfz7_1
       try clear hfz7_2
       obtain ⟨x3_1, rfl, HA, HK1, BK298, HB⟩ := hrel
       cases gk with
       | zero => exact absurd HA.out (by simp [rampartref18_Check.l0])
       | succ k1 =>
        have H := HA.out
        clear HA
        simp only [rampartref18_Check.l0] at H
        by_cases c19 : x3_1 < (l0_2.length : Int)
        ·rw [if_pos c19] at H
         have c19b0 : decide (x3_1 < (l0_2.length : Int)) = true := decide_eq_true c19
         clear c19
         by_cases c20 : 0 ≤ x3_1
         ·rw [if_pos c20] at H
          have c20b0 : decide (0 ≤ x3_1) = true := decide_eq_true c20
          clear c20
          replace H := Option.bind_eq_some_iff.mp H
          obtain ⟨t300, A210, H⟩ := H
          replace H : (if t300 = 0 then (some 180) else (if ((rd_T42 l0_2 x3_1).f0) ≥ a0_1 then (some 180) else (if x3_1 > 0 then (if 0 ≤ (wrap64 (x3_1 - 1)) then (if (wrap64 (x3_1 - 1)) < (l0_2.length : Int) then (if ((rd_T42 l0_2 (wrap64 (x3_1 - 1))).f0) ≥ ((rd_T42 l0_2 x3_1).f0) then (some 180) else (rampartref18_Check.l0 k1 (wrap64 (x3_1 + 1)) a0_0 a0_1 l0_2)) else (none)) else (none)) else (rampartref18_Check.l0 k1 (wrap64 (x3_1 + 1)) a0_0 a0_1 l0_2)))) = some r := H
          have A21 := Aside0.mk A210
          clear A210
          by_cases c22 : t300 = 0
          ·rw [if_pos c22] at H
           have c22b0 : (t300 == 0) = true := beq_iff_eq.mpr c22
           have c22b1 : (t300 != 0) = false := bne_eq_false_iff_eq.mpr c22
           clear c22
           obtain rfl := Option.some.inj H
           have hcz23_0 : wr.cell? ⟨gb298, 0, none⟩ = some (.int .i64 a0_0) := (blk_cell BK298.out 0).trans rfl
           have hcz23_1 : wr.cell? ⟨gb298, 1, none⟩ = some (.int .i64 a0_1) := (blk_cell BK298.out 1).trans rfl
           have hcz23_2 : wr.cell? ⟨gb298, 2, none⟩ = some (.slice A0_2 l0_2.length c0_2) := (blk_cell BK298.out 2).trans rfl
           have hfz23_0 := blk_frozen BK298.out 0
           have hfz23_1 := blk_frozen BK298.out 1
           have hfz23_2 := blk_frozen BK298.out 2
           try go_wp2
           have BKo := BK298
           have HBo := HB
           have n0_ := Aside0.mk (blk_drew BK298.out)
           have n1_ := Aside0.mk (below_drew1 HB.out)
           clear BK298
           clear HB
           have BK298 := n0_
           have HB := n1_
           clear n0_ n1_
           have p299 : 0 ≤ (x3_1 : Int) := of_decide_eq_true (by first | (with_reducible assumption) | assumption)
           have q299 : x3_1 < (l0_2.length : Int) := of_decide_eq_true (by first | (with_reducible assumption) | assumption)
           obtain ⟨ad299, e299, hx299_0, hx299_1, hx299_2, hx299_3, hx299_4, hx299_5, hx299_6, hx299_7, hx299_8, hx299_9, hx299_10, hx299_11⟩ := at_T42 HR0_2.out x3_1 p299 q299
           have hw299_11 := hx299_11
           have hw299_10 := hx299_10
           have hw299_9 := hx299_9
           have hw299_8 := hx299_8
           have hw299_7 := hx299_7
           have hw299_6 := hx299_6
           have hw299_5 := hx299_5
           have hw299_4 := hx299_4
           have hw299_3 := hx299_3
           have hw299_2 := hx299_2
           have hw299_1 := hx299_1
           have hw299_0 := hx299_0
           cases e299
           replace hx299_0 := (HB.out.cell (World.block_lt_of_cell? w _ hx299_0)).trans hx299_0
           replace hx299_1 := (HB.out.cell (World.block_lt_of_cell? w _ hx299_1)).trans hx299_1
           replace hx299_2 := (HB.out.cell (World.block_lt_of_cell? w _ hx299_2)).trans hx299_2
           replace hx299_3 := (HB.out.cell (World.block_lt_of_cell? w _ hx299_3)).trans hx299_3
           replace hx299_4 := (HB.out.cell (World.block_lt_of_cell? w _ hx299_4)).trans hx299_4
           replace hx299_5 := (HB.out.cell (World.block_lt_of_cell? w _ hx299_5)).trans hx299_5
           replace hx299_6 := (HB.out.cell (World.block_lt_of_cell? w _ hx299_6)).trans hx299_6
           replace hx299_7 := (HB.out.cell (World.block_lt_of_cell? w _ hx299_7)).trans hx299_7
           replace hx299_8 := (HB.out.cell (World.block_lt_of_cell? w _ hx299_8)).trans hx299_8
           replace hx299_9 := (HB.out.cell (World.block_lt_of_cell? w _ hx299_9)).trans hx299_9
           replace hx299_10 := (HB.out.cell (World.block_lt_of_cell? w _ hx299_10)).trans hx299_10
           replace hx299_11 := (HB.out.cell (World.block_lt_of_cell? w _ hx299_11)).trans hx299_11
           replace p299 := eq_true p299
           replace q299 := eq_true q299
           have qhx299_0 := gw_cell (B := wr) hx299_0
           have qhx299_1 := gw_cell (B := wr) hx299_1
           have qhx299_2 := gw_cell (B := wr) hx299_2
           have qhx299_3 := gw_cell (B := wr) hx299_3
           have qhx299_4 := gw_cell (B := wr) hx299_4
           have qhx299_5 := gw_cell (B := wr) hx299_5
           have qhx299_6 := gw_cell (B := wr) hx299_6
           have qhx299_7 := gw_cell (B := wr) hx299_7
           have qhx299_8 := gw_cell (B := wr) hx299_8
           have qhx299_9 := gw_cell (B := wr) hx299_9
           have qhx299_10 := gw_cell (B := wr) hx299_10
           have qhx299_11 := gw_cell (B := wr) hx299_11
           have qhcz23_0 := gw_cell hcz23_0
           have qhcz23_1 := gw_cell hcz23_1
           have qhcz23_2 := gw_cell hcz23_2
           clear hx299_0 hx299_1 hx299_2 hx299_3 hx299_4 hx299_5 hx299_6 hx299_7 hx299_8 hx299_9 hx299_10 hx299_11
           refine wp_region_quietB (by kernel_rfl) (by kernel_rfl) ?_
           repeat (first | go_big_quiet_step ((go_at_call 32; exact quietB_of (rampartref17_Left.calls k1 ((rd_T42 l0_2 x3_1).f0) ((rd_T42 l0_2 x3_1).f1.f0) ((rd_T42 l0_2 x3_1).f1.f1) ((rd_T42 l0_2 x3_1).f1.f2) ((rd_T42 l0_2 x3_1).f1.f3) ((rd_T42 l0_2 x3_1).f1.f4) ((rd_T42 l0_2 x3_1).f2) ((rd_T42 l0_2 x3_1).f3) ((rd_T42 l0_2 x3_1).f4) ((rd_T42 l0_2 x3_1).f5.f0) ((rd_T42 l0_2 x3_1).f5.f1) ((rd_T42 l0_2 x3_1).f6) t300 _ A21.out))) | quiet_step ((go_at_call 32; exact quietB_of (rampartref17_Left.calls k1 ((rd_T42 l0_2 x3_1).f0) ((rd_T42 l0_2 x3_1).f1.f0) ((rd_T42 l0_2 x3_1).f1.f1) ((rd_T42 l0_2 x3_1).f1.f2) ((rd_T42 l0_2 x3_1).f1.f3) ((rd_T42 l0_2 x3_1).f1.f4) ((rd_T42 l0_2 x3_1).f2) ((rd_T42 l0_2 x3_1).f3) ((rd_T42 l0_2 x3_1).f4) ((rd_T42 l0_2 x3_1).f5.f0) ((rd_T42 l0_2 x3_1).f5.f1) ((rd_T42 l0_2 x3_1).f6) t300 _ A21.out))))
           refine wpQuiet_nil ?_
           rintro w9 ⟨⟨wq_, hb9⟩, hwq_⟩
           obtain rfl : w9 = wq_ := hwq_
           clear BK298 HB
           have BK298 := Aside0.mk (blk_below (g := gb298) BKo.out hb9)
           have HB := Aside0.mk (below_step HBo.out hb9)
           clear BKo HBo
           try go_wp2
           go_ret
           exact ⟨by first | rfl | (simp [*, errW_none, errW_some] <;> rfl), by repeat (first | (with_reducible first | exact HB.out | apply below_alloc | apply pw_below_drewN | apply below_drew1 | refine below_set ?_ GE298.out) | exact HB.out)⟩
          ·rw [if_neg c22] at H
           have c22b0 : (t300 == 0) = false := beq_eq_false_iff_ne.mpr c22
           have c22b1 : (t300 != 0) = true := bne_iff_ne.mpr c22
           by_cases c26 : ((rd_T42 l0_2 x3_1).f0) ≥ a0_1
           ·rw [if_pos c26] at H
            have c26b0 : decide (a0_1 ≤ ((rd_T42 l0_2 x3_1).f0)) = true := decide_eq_true c26
            clear c26
            obtain rfl := Option.some.inj H
            have hcz27_0 : wr.cell? ⟨gb298, 0, none⟩ = some (.int .i64 a0_0) := (blk_cell BK298.out 0).trans rfl
            have hcz27_1 : wr.cell? ⟨gb298, 1, none⟩ = some (.int .i64 a0_1) := (blk_cell BK298.out 1).trans rfl
            have hcz27_2 : wr.cell? ⟨gb298, 2, none⟩ = some (.slice A0_2 l0_2.length c0_2) := (blk_cell BK298.out 2).trans rfl
            have hfz27_0 := blk_frozen BK298.out 0
            have hfz27_1 := blk_frozen BK298.out 1
            have hfz27_2 := blk_frozen BK298.out 2
            try go_wp2
            have BKo := BK298
            have HBo := HB
            have n0_ := Aside0.mk (blk_drew BK298.out)
            have n1_ := Aside0.mk (below_drew1 HB.out)
            clear BK298
            clear HB
            have BK298 := n0_
            have HB := n1_
            clear n0_ n1_
            have p299 : 0 ≤ (x3_1 : Int) := of_decide_eq_true (by first | (with_reducible assumption) | assumption)
            have q299 : x3_1 < (l0_2.length : Int) := of_decide_eq_true (by first | (with_reducible assumption) | assumption)
            obtain ⟨ad299, e299, hx299_0, hx299_1, hx299_2, hx299_3, hx299_4, hx299_5, hx299_6, hx299_7, hx299_8, hx299_9, hx299_10, hx299_11⟩ := at_T42 HR0_2.out x3_1 p299 q299
            have hw299_11 := hx299_11
            have hw299_10 := hx299_10
            have hw299_9 := hx299_9
            have hw299_8 := hx299_8
            have hw299_7 := hx299_7
            have hw299_6 := hx299_6
            have hw299_5 := hx299_5
            have hw299_4 := hx299_4
            have hw299_3 := hx299_3
            have hw299_2 := hx299_2
            have hw299_1 := hx299_1
            have hw299_0 := hx299_0
            cases e299
            replace hx299_0 := (HB.out.cell (World.block_lt_of_cell? w _ hx299_0)).trans hx299_0
            replace hx299_1 := (HB.out.cell (World.block_lt_of_cell? w _ hx299_1)).trans hx299_1
            replace hx299_2 := (HB.out.cell (World.block_lt_of_cell? w _ hx299_2)).trans hx299_2
            replace hx299_3 := (HB.out.cell (World.block_lt_of_cell? w _ hx299_3)).trans hx299_3
            replace hx299_4 := (HB.out.cell (World.block_lt_of_cell? w _ hx299_4)).trans hx299_4
            replace hx299_5 := (HB.out.cell (World.block_lt_of_cell? w _ hx299_5)).trans hx299_5
            replace hx299_6 := (HB.out.cell (World.block_lt_of_cell? w _ hx299_6)).trans hx299_6
            replace hx299_7 := (HB.out.cell (World.block_lt_of_cell? w _ hx299_7)).trans hx299_7
            replace hx299_8 := (HB.out.cell (World.block_lt_of_cell? w _ hx299_8)).trans hx299_8
            replace hx299_9 := (HB.out.cell (World.block_lt_of_cell? w _ hx299_9)).trans hx299_9
            replace hx299_10 := (HB.out.cell (World.block_lt_of_cell? w _ hx299_10)).trans hx299_10
            replace hx299_11 := (HB.out.cell (World.block_lt_of_cell? w _ hx299_11)).trans hx299_11
            replace p299 := eq_true p299
            replace q299 := eq_true q299
            have qhx299_0 := gw_cell (B := wr) hx299_0
            have qhx299_1 := gw_cell (B := wr) hx299_1
            have qhx299_2 := gw_cell (B := wr) hx299_2
            have qhx299_3 := gw_cell (B := wr) hx299_3
            have qhx299_4 := gw_cell (B := wr) hx299_4
            have qhx299_5 := gw_cell (B := wr) hx299_5
            have qhx299_6 := gw_cell (B := wr) hx299_6
            have qhx299_7 := gw_cell (B := wr) hx299_7
            have qhx299_8 := gw_cell (B := wr) hx299_8
            have qhx299_9 := gw_cell (B := wr) hx299_9
            have qhx299_10 := gw_cell (B := wr) hx299_10
            have qhx299_11 := gw_cell (B := wr) hx299_11
            have qhcz27_0 := gw_cell hcz27_0
            have qhcz27_1 := gw_cell hcz27_1
            have qhcz27_2 := gw_cell hcz27_2
            clear hx299_0 hx299_1 hx299_2 hx299_3 hx299_4 hx299_5 hx299_6 hx299_7 hx299_8 hx299_9 hx299_10 hx299_11
            refine wp_region_quietB (by kernel_rfl) (by kernel_rfl) ?_
            repeat (first | go_big_quiet_step ((go_at_call 32; exact quietB_of (rampartref17_Left.calls k1 ((rd_T42 l0_2 x3_1).f0) ((rd_T42 l0_2 x3_1).f1.f0) ((rd_T42 l0_2 x3_1).f1.f1) ((rd_T42 l0_2 x3_1).f1.f2) ((rd_T42 l0_2 x3_1).f1.f3) ((rd_T42 l0_2 x3_1).f1.f4) ((rd_T42 l0_2 x3_1).f2) ((rd_T42 l0_2 x3_1).f3) ((rd_T42 l0_2 x3_1).f4) ((rd_T42 l0_2 x3_1).f5.f0) ((rd_T42 l0_2 x3_1).f5.f1) ((rd_T42 l0_2 x3_1).f6) t300 _ A21.out))) | quiet_step ((go_at_call 32; exact quietB_of (rampartref17_Left.calls k1 ((rd_T42 l0_2 x3_1).f0) ((rd_T42 l0_2 x3_1).f1.f0) ((rd_T42 l0_2 x3_1).f1.f1) ((rd_T42 l0_2 x3_1).f1.f2) ((rd_T42 l0_2 x3_1).f1.f3) ((rd_T42 l0_2 x3_1).f1.f4) ((rd_T42 l0_2 x3_1).f2) ((rd_T42 l0_2 x3_1).f3) ((rd_T42 l0_2 x3_1).f4) ((rd_T42 l0_2 x3_1).f5.f0) ((rd_T42 l0_2 x3_1).f5.f1) ((rd_T42 l0_2 x3_1).f6) t300 _ A21.out))))
            refine wpQuiet_nil ?_
            rintro w9 ⟨⟨wq_, hb9⟩, hwq_⟩
            obtain rfl : w9 = wq_ := hwq_
            clear BK298 HB
            have BK298 := Aside0.mk (blk_below (g := gb298) BKo.out hb9)
            have HB := Aside0.mk (below_step HBo.out hb9)
            clear BKo HBo
            try go_wp2
            go_ret
            exact ⟨by first | rfl | (simp [*, errW_none, errW_some] <;> rfl), by repeat (first | (with_reducible first | exact HB.out | apply below_alloc | apply pw_below_drewN | apply below_drew1 | refine below_set ?_ GE298.out) | exact HB.out)⟩
           ·rw [if_neg c26] at H
            have c26b0 : decide (a0_1 ≤ ((rd_T42 l0_2 x3_1).f0)) = false := decide_eq_false c26
            clear c26
            by_cases c30 : x3_1 > 0
            ·rw [if_pos c30] at H
             have c30b0 : decide (0 < x3_1) = true := decide_eq_true c30
             clear c30
             obtain ⟨ji31, hji31⟩ : ∃ j_ : Int, (wrap64 (x3_1 - 1)) = j_ := ⟨_, rfl⟩
             replace H : (if 0 ≤ (ji31) then (if (ji31) < (l0_2.length : Int) then (if ((rd_T42 l0_2 (ji31)).f0) ≥ ((rd_T42 l0_2 x3_1).f0) then (some 180) else (rampartref18_Check.l0 k1 (wrap64 (x3_1 + 1)) a0_0 a0_1 l0_2)) else (none)) else (none)) = some r := by first | (rw [hji31] at H; exact H) | (simp only [hji31] at H ⊢; exact H)
             (try rw [hji31] at A21)
             have hji31w : (IntKind.i64.wrap (x3_1 - 1)) = ji31 := (i64_w _).trans hji31
             by_cases c32 : 0 ≤ (ji31)
             ·rw [if_pos c32] at H
              have c32b0 : decide (0 ≤ (ji31)) = true := decide_eq_true c32
              clear c32
              by_cases c33 : (ji31) < (l0_2.length : Int)
              ·rw [if_pos c33] at H
               have c33b0 : decide ((ji31) < (l0_2.length : Int)) = true := decide_eq_true c33
               clear c33
               by_cases c34 : ((rd_T42 l0_2 (ji31)).f0) ≥ ((rd_T42 l0_2 x3_1).f0)
               ·rw [if_pos c34] at H
                have c34b0 : decide (((rd_T42 l0_2 x3_1).f0) ≤ ((rd_T42 l0_2 (ji31)).f0)) = true := decide_eq_true c34
                clear c34
                obtain rfl := Option.some.inj H
                have hcz35_0 : wr.cell? ⟨gb298, 0, none⟩ = some (.int .i64 a0_0) := (blk_cell BK298.out 0).trans rfl
                have hcz35_1 : wr.cell? ⟨gb298, 1, none⟩ = some (.int .i64 a0_1) := (blk_cell BK298.out 1).trans rfl
                have hcz35_2 : wr.cell? ⟨gb298, 2, none⟩ = some (.slice A0_2 l0_2.length c0_2) := (blk_cell BK298.out 2).trans rfl
                have hfz35_0 := blk_frozen BK298.out 0
                have hfz35_1 := blk_frozen BK298.out 1
                have hfz35_2 := blk_frozen BK298.out 2
                try go_wp2
                have BKo := BK298
                have HBo := HB
                have n0_ := Aside0.mk (blk_drew BK298.out)
                have n1_ := Aside0.mk (below_drew1 HB.out)
                clear BK298
                clear HB
                have BK298 := n0_
                have HB := n1_
                clear n0_ n1_
                have p299 : 0 ≤ (x3_1 : Int) := of_decide_eq_true (by first | (with_reducible assumption) | assumption)
                have q299 : x3_1 < (l0_2.length : Int) := of_decide_eq_true (by first | (with_reducible assumption) | assumption)
                obtain ⟨ad299, e299, hx299_0, hx299_1, hx299_2, hx299_3, hx299_4, hx299_5, hx299_6, hx299_7, hx299_8, hx299_9, hx299_10, hx299_11⟩ := at_T42 HR0_2.out x3_1 p299 q299
                have hw299_11 := hx299_11
                have hw299_10 := hx299_10
                have hw299_9 := hx299_9
                have hw299_8 := hx299_8
                have hw299_7 := hx299_7
                have hw299_6 := hx299_6
                have hw299_5 := hx299_5
                have hw299_4 := hx299_4
                have hw299_3 := hx299_3
                have hw299_2 := hx299_2
                have hw299_1 := hx299_1
                have hw299_0 := hx299_0
                cases e299
                replace hx299_0 := (HB.out.cell (World.block_lt_of_cell? w _ hx299_0)).trans hx299_0
                replace hx299_1 := (HB.out.cell (World.block_lt_of_cell? w _ hx299_1)).trans hx299_1
                replace hx299_2 := (HB.out.cell (World.block_lt_of_cell? w _ hx299_2)).trans hx299_2
                replace hx299_3 := (HB.out.cell (World.block_lt_of_cell? w _ hx299_3)).trans hx299_3
                replace hx299_4 := (HB.out.cell (World.block_lt_of_cell? w _ hx299_4)).trans hx299_4
                replace hx299_5 := (HB.out.cell (World.block_lt_of_cell? w _ hx299_5)).trans hx299_5
                replace hx299_6 := (HB.out.cell (World.block_lt_of_cell? w _ hx299_6)).trans hx299_6
                replace hx299_7 := (HB.out.cell (World.block_lt_of_cell? w _ hx299_7)).trans hx299_7
                replace hx299_8 := (HB.out.cell (World.block_lt_of_cell? w _ hx299_8)).trans hx299_8
                replace hx299_9 := (HB.out.cell (World.block_lt_of_cell? w _ hx299_9)).trans hx299_9
                replace hx299_10 := (HB.out.cell (World.block_lt_of_cell? w _ hx299_10)).trans hx299_10
                replace hx299_11 := (HB.out.cell (World.block_lt_of_cell? w _ hx299_11)).trans hx299_11
                replace p299 := eq_true p299
                replace q299 := eq_true q299
                have p302 : 0 ≤ ((ji31) : Int) := of_decide_eq_true (by first | (with_reducible assumption) | assumption)
                have q302 : (ji31) < (l0_2.length : Int) := of_decide_eq_true (by first | (with_reducible assumption) | assumption)
                obtain ⟨ad302, e302, hx302_0, hx302_1, hx302_2, hx302_3, hx302_4, hx302_5, hx302_6, hx302_7, hx302_8, hx302_9, hx302_10, hx302_11⟩ := at_T42 HR0_2.out (ji31) p302 q302
                have hw302_11 := hx302_11
                have hw302_10 := hx302_10
                have hw302_9 := hx302_9
                have hw302_8 := hx302_8
                have hw302_7 := hx302_7
                have hw302_6 := hx302_6
                have hw302_5 := hx302_5
                have hw302_4 := hx302_4
                have hw302_3 := hx302_3
                have hw302_2 := hx302_2
                have hw302_1 := hx302_1
                have hw302_0 := hx302_0
                obtain rfl : ad299 = ad302 := (by injection e302)
                replace hx302_0 := (HB.out.cell (World.block_lt_of_cell? w _ hx302_0)).trans hx302_0
                replace hx302_1 := (HB.out.cell (World.block_lt_of_cell? w _ hx302_1)).trans hx302_1
                replace hx302_2 := (HB.out.cell (World.block_lt_of_cell? w _ hx302_2)).trans hx302_2
                replace hx302_3 := (HB.out.cell (World.block_lt_of_cell? w _ hx302_3)).trans hx302_3
                replace hx302_4 := (HB.out.cell (World.block_lt_of_cell? w _ hx302_4)).trans hx302_4
                replace hx302_5 := (HB.out.cell (World.block_lt_of_cell? w _ hx302_5)).trans hx302_5
                replace hx302_6 := (HB.out.cell (World.block_lt_of_cell? w _ hx302_6)).trans hx302_6
                replace hx302_7 := (HB.out.cell (World.block_lt_of_cell? w _ hx302_7)).trans hx302_7
                replace hx302_8 := (HB.out.cell (World.block_lt_of_cell? w _ hx302_8)).trans hx302_8
                replace hx302_9 := (HB.out.cell (World.block_lt_of_cell? w _ hx302_9)).trans hx302_9
                replace hx302_10 := (HB.out.cell (World.block_lt_of_cell? w _ hx302_10)).trans hx302_10
                replace hx302_11 := (HB.out.cell (World.block_lt_of_cell? w _ hx302_11)).trans hx302_11
                replace p302 := eq_true p302
                replace q302 := eq_true q302
                have qhx299_0 := gw_cell (B := wr) hx299_0
                have qhx299_1 := gw_cell (B := wr) hx299_1
                have qhx299_2 := gw_cell (B := wr) hx299_2
                have qhx299_3 := gw_cell (B := wr) hx299_3
                have qhx299_4 := gw_cell (B := wr) hx299_4
                have qhx299_5 := gw_cell (B := wr) hx299_5
                have qhx299_6 := gw_cell (B := wr) hx299_6
                have qhx299_7 := gw_cell (B := wr) hx299_7
                have qhx299_8 := gw_cell (B := wr) hx299_8
                have qhx299_9 := gw_cell (B := wr) hx299_9
                have qhx299_10 := gw_cell (B := wr) hx299_10
                have qhx299_11 := gw_cell (B := wr) hx299_11
                have qhx302_0 := gw_cell (B := wr) hx302_0
                have qhcz35_0 := gw_cell hcz35_0
                have qhcz35_1 := gw_cell hcz35_1
                have qhcz35_2 := gw_cell hcz35_2
                clear hx299_0 hx299_1 hx299_2 hx299_3 hx299_4 hx299_5 hx299_6 hx299_7 hx299_8 hx299_9 hx299_10 hx299_11 hx302_0
                refine wp_region_quietB (by kernel_rfl) (by kernel_rfl) ?_
                repeat (first | go_big_quiet_step ((go_at_call 32; exact quietB_of (rampartref17_Left.calls k1 ((rd_T42 l0_2 x3_1).f0) ((rd_T42 l0_2 x3_1).f1.f0) ((rd_T42 l0_2 x3_1).f1.f1) ((rd_T42 l0_2 x3_1).f1.f2) ((rd_T42 l0_2 x3_1).f1.f3) ((rd_T42 l0_2 x3_1).f1.f4) ((rd_T42 l0_2 x3_1).f2) ((rd_T42 l0_2 x3_1).f3) ((rd_T42 l0_2 x3_1).f4) ((rd_T42 l0_2 x3_1).f5.f0) ((rd_T42 l0_2 x3_1).f5.f1) ((rd_T42 l0_2 x3_1).f6) t300 _ A21.out))) | quiet_step ((go_at_call 32; exact quietB_of (rampartref17_Left.calls k1 ((rd_T42 l0_2 x3_1).f0) ((rd_T42 l0_2 x3_1).f1.f0) ((rd_T42 l0_2 x3_1).f1.f1) ((rd_T42 l0_2 x3_1).f1.f2) ((rd_T42 l0_2 x3_1).f1.f3) ((rd_T42 l0_2 x3_1).f1.f4) ((rd_T42 l0_2 x3_1).f2) ((rd_T42 l0_2 x3_1).f3) ((rd_T42 l0_2 x3_1).f4) ((rd_T42 l0_2 x3_1).f5.f0) ((rd_T42 l0_2 x3_1).f5.f1) ((rd_T42 l0_2 x3_1).f6) t300 _ A21.out))))
                refine wpQuiet_nil ?_
                rintro w9 ⟨⟨wq_, hb9⟩, hwq_⟩
                obtain rfl : w9 = wq_ := hwq_
                clear BK298 HB
                have BK298 := Aside0.mk (blk_below (g := gb298) BKo.out hb9)
                have HB := Aside0.mk (below_step HBo.out hb9)
                clear BKo HBo
                try go_wp2
                go_ret
                exact ⟨by first | rfl | (simp [errW_none, errW_some] <;> rfl) | (simp only [← hji31]; first | rfl | (simp [errW_none, errW_some] <;> rfl)) | (simp [*, errW_none, errW_some] <;> rfl), by repeat (first | (with_reducible first | exact HB.out | apply below_alloc | apply pw_below_drewN | apply below_drew1 | refine below_set ?_ GE298.out) | exact HB.out)⟩
               ·rw [if_neg c34] at H
                have c34b0 : decide (((rd_T42 l0_2 x3_1).f0) ≤ ((rd_T42 l0_2 (ji31)).f0)) = false := decide_eq_false c34
                clear c34
                have H' := Aside0.mk H
                clear H
                have hcz38_0 : wr.cell? ⟨gb298, 0, none⟩ = some (.int .i64 a0_0) := (blk_cell BK298.out 0).trans rfl
                have hcz38_1 : wr.cell? ⟨gb298, 1, none⟩ = some (.int .i64 a0_1) := (blk_cell BK298.out 1).trans rfl
                have hcz38_2 : wr.cell? ⟨gb298, 2, none⟩ = some (.slice A0_2 l0_2.length c0_2) := (blk_cell BK298.out 2).trans rfl
                have hfz38_0 := blk_frozen BK298.out 0
                have hfz38_1 := blk_frozen BK298.out 1
                have hfz38_2 := blk_frozen BK298.out 2
                try go_wp2
                have BKo := BK298
                have HBo := HB
                have n0_ := Aside0.mk (blk_drew BK298.out)
                have n1_ := Aside0.mk (below_drew1 HB.out)
                clear BK298
                clear HB
                have BK298 := n0_
                have HB := n1_
                clear n0_ n1_
                have p299 : 0 ≤ (x3_1 : Int) := of_decide_eq_true (by first | (with_reducible assumption) | assumption)
                have q299 : x3_1 < (l0_2.length : Int) := of_decide_eq_true (by first | (with_reducible assumption) | assumption)
                obtain ⟨ad299, e299, hx299_0, hx299_1, hx299_2, hx299_3, hx299_4, hx299_5, hx299_6, hx299_7, hx299_8, hx299_9, hx299_10, hx299_11⟩ := at_T42 HR0_2.out x3_1 p299 q299
                have hw299_11 := hx299_11
                have hw299_10 := hx299_10
                have hw299_9 := hx299_9
                have hw299_8 := hx299_8
                have hw299_7 := hx299_7
                have hw299_6 := hx299_6
                have hw299_5 := hx299_5
                have hw299_4 := hx299_4
                have hw299_3 := hx299_3
                have hw299_2 := hx299_2
                have hw299_1 := hx299_1
                have hw299_0 := hx299_0
                cases e299
                replace hx299_0 := (HB.out.cell (World.block_lt_of_cell? w _ hx299_0)).trans hx299_0
                replace hx299_1 := (HB.out.cell (World.block_lt_of_cell? w _ hx299_1)).trans hx299_1
                replace hx299_2 := (HB.out.cell (World.block_lt_of_cell? w _ hx299_2)).trans hx299_2
                replace hx299_3 := (HB.out.cell (World.block_lt_of_cell? w _ hx299_3)).trans hx299_3
                replace hx299_4 := (HB.out.cell (World.block_lt_of_cell? w _ hx299_4)).trans hx299_4
                replace hx299_5 := (HB.out.cell (World.block_lt_of_cell? w _ hx299_5)).trans hx299_5
                replace hx299_6 := (HB.out.cell (World.block_lt_of_cell? w _ hx299_6)).trans hx299_6
                replace hx299_7 := (HB.out.cell (World.block_lt_of_cell? w _ hx299_7)).trans hx299_7
                replace hx299_8 := (HB.out.cell (World.block_lt_of_cell? w _ hx299_8)).trans hx299_8
                replace hx299_9 := (HB.out.cell (World.block_lt_of_cell? w _ hx299_9)).trans hx299_9
                replace hx299_10 := (HB.out.cell (World.block_lt_of_cell? w _ hx299_10)).trans hx299_10
                replace hx299_11 := (HB.out.cell (World.block_lt_of_cell? w _ hx299_11)).trans hx299_11
                replace p299 := eq_true p299
                replace q299 := eq_true q299
                have p302 : 0 ≤ ((ji31) : Int) := of_decide_eq_true (by first | (with_reducible assumption) | assumption)
                have q302 : (ji31) < (l0_2.length : Int) := of_decide_eq_true (by first | (with_reducible assumption) | assumption)
                obtain ⟨ad302, e302, hx302_0, hx302_1, hx302_2, hx302_3, hx302_4, hx302_5, hx302_6, hx302_7, hx302_8, hx302_9, hx302_10, hx302_11⟩ := at_T42 HR0_2.out (ji31) p302 q302
                have hw302_11 := hx302_11
                have hw302_10 := hx302_10
                have hw302_9 := hx302_9
                have hw302_8 := hx302_8
                have hw302_7 := hx302_7
                have hw302_6 := hx302_6
                have hw302_5 := hx302_5
                have hw302_4 := hx302_4
                have hw302_3 := hx302_3
                have hw302_2 := hx302_2
                have hw302_1 := hx302_1
                have hw302_0 := hx302_0
                obtain rfl : ad299 = ad302 := (by injection e302)
                replace hx302_0 := (HB.out.cell (World.block_lt_of_cell? w _ hx302_0)).trans hx302_0
                replace hx302_1 := (HB.out.cell (World.block_lt_of_cell? w _ hx302_1)).trans hx302_1
                replace hx302_2 := (HB.out.cell (World.block_lt_of_cell? w _ hx302_2)).trans hx302_2
                replace hx302_3 := (HB.out.cell (World.block_lt_of_cell? w _ hx302_3)).trans hx302_3
                replace hx302_4 := (HB.out.cell (World.block_lt_of_cell? w _ hx302_4)).trans hx302_4
                replace hx302_5 := (HB.out.cell (World.block_lt_of_cell? w _ hx302_5)).trans hx302_5
                replace hx302_6 := (HB.out.cell (World.block_lt_of_cell? w _ hx302_6)).trans hx302_6
                replace hx302_7 := (HB.out.cell (World.block_lt_of_cell? w _ hx302_7)).trans hx302_7
                replace hx302_8 := (HB.out.cell (World.block_lt_of_cell? w _ hx302_8)).trans hx302_8
                replace hx302_9 := (HB.out.cell (World.block_lt_of_cell? w _ hx302_9)).trans hx302_9
                replace hx302_10 := (HB.out.cell (World.block_lt_of_cell? w _ hx302_10)).trans hx302_10
                replace hx302_11 := (HB.out.cell (World.block_lt_of_cell? w _ hx302_11)).trans hx302_11
                replace p302 := eq_true p302
                replace q302 := eq_true q302
                have qhx299_0 := gw_cell (B := wr) hx299_0
                have qhx299_1 := gw_cell (B := wr) hx299_1
                have qhx299_2 := gw_cell (B := wr) hx299_2
                have qhx299_3 := gw_cell (B := wr) hx299_3
                have qhx299_4 := gw_cell (B := wr) hx299_4
                have qhx299_5 := gw_cell (B := wr) hx299_5
                have qhx299_6 := gw_cell (B := wr) hx299_6
                have qhx299_7 := gw_cell (B := wr) hx299_7
                have qhx299_8 := gw_cell (B := wr) hx299_8
                have qhx299_9 := gw_cell (B := wr) hx299_9
                have qhx299_10 := gw_cell (B := wr) hx299_10
                have qhx299_11 := gw_cell (B := wr) hx299_11
                have qhx302_0 := gw_cell (B := wr) hx302_0
                have qhcz38_0 := gw_cell hcz38_0
                have qhcz38_1 := gw_cell hcz38_1
                have qhcz38_2 := gw_cell hcz38_2
                clear hx299_0 hx299_1 hx299_2 hx299_3 hx299_4 hx299_5 hx299_6 hx299_7 hx299_8 hx299_9 hx299_10 hx299_11 hx302_0
                refine wp_region_quietB (by kernel_rfl) (by kernel_rfl) ?_
                repeat (first | go_big_quiet_step ((go_at_call 32; exact quietB_of (rampartref17_Left.calls k1 ((rd_T42 l0_2 x3_1).f0) ((rd_T42 l0_2 x3_1).f1.f0) ((rd_T42 l0_2 x3_1).f1.f1) ((rd_T42 l0_2 x3_1).f1.f2) ((rd_T42 l0_2 x3_1).f1.f3) ((rd_T42 l0_2 x3_1).f1.f4) ((rd_T42 l0_2 x3_1).f2) ((rd_T42 l0_2 x3_1).f3) ((rd_T42 l0_2 x3_1).f4) ((rd_T42 l0_2 x3_1).f5.f0) ((rd_T42 l0_2 x3_1).f5.f1) ((rd_T42 l0_2 x3_1).f6) t300 _ A21.out))) | quiet_step ((go_at_call 32; exact quietB_of (rampartref17_Left.calls k1 ((rd_T42 l0_2 x3_1).f0) ((rd_T42 l0_2 x3_1).f1.f0) ((rd_T42 l0_2 x3_1).f1.f1) ((rd_T42 l0_2 x3_1).f1.f2) ((rd_T42 l0_2 x3_1).f1.f3) ((rd_T42 l0_2 x3_1).f1.f4) ((rd_T42 l0_2 x3_1).f2) ((rd_T42 l0_2 x3_1).f3) ((rd_T42 l0_2 x3_1).f4) ((rd_T42 l0_2 x3_1).f5.f0) ((rd_T42 l0_2 x3_1).f5.f1) ((rd_T42 l0_2 x3_1).f6) t300 _ A21.out))))
                refine wpQuiet_nil ?_
                rintro w9 ⟨⟨wq_, hb9⟩, hwq_⟩
                obtain rfl : w9 = wq_ := hwq_
                clear BK298 HB
                have BK298 := Aside0.mk (blk_below (g := gb298) BKo.out hb9)
                have HB := Aside0.mk (below_step HBo.out hb9)
                clear BKo HBo
                try go_wp2
                go_roundg k1
                case measure => have := HK1.out; omega
                case rel => exact ⟨(wrap64 (x3_1 + 1)), (by first | rfl | (simp; done) | (simp [*]; done)), H', ⟨by have := HK1.out; omega⟩, ⟨stp BK298⟩, ⟨by repeat (first | (with_reducible first | exact HB.out | apply below_alloc | apply pw_below_drewN | apply below_drew1 | refine below_set ?_ GE298.out) | exact HB.out)⟩⟩
              ·rw [if_neg c33] at H
               exact absurd H (by simp)
             ·rw [if_neg c32] at H
              exact absurd H (by simp)
            ·rw [if_neg c30] at H
             have c30b0 : decide (0 < x3_1) = false := decide_eq_false c30
             clear c30
             have H' := Aside0.mk H
             clear H
             have hcz41_0 : wr.cell? ⟨gb298, 0, none⟩ = some (.int .i64 a0_0) := (blk_cell BK298.out 0).trans rfl
             have hcz41_1 : wr.cell? ⟨gb298, 1, none⟩ = some (.int .i64 a0_1) := (blk_cell BK298.out 1).trans rfl
             have hcz41_2 : wr.cell? ⟨gb298, 2, none⟩ = some (.slice A0_2 l0_2.length c0_2) := (blk_cell BK298.out 2).trans rfl
             have hfz41_0 := blk_frozen BK298.out 0
             have hfz41_1 := blk_frozen BK298.out 1
             have hfz41_2 := blk_frozen BK298.out 2
             try go_wp2
             have BKo := BK298
             have HBo := HB
             have n0_ := Aside0.mk (blk_drew BK298.out)
             have n1_ := Aside0.mk (below_drew1 HB.out)
             clear BK298
             clear HB
             have BK298 := n0_
             have HB := n1_
             clear n0_ n1_
             have p299 : 0 ≤ (x3_1 : Int) := of_decide_eq_true (by first | (with_reducible assumption) | assumption)
             have q299 : x3_1 < (l0_2.length : Int) := of_decide_eq_true (by first | (with_reducible assumption) | assumption)
             obtain ⟨ad299, e299, hx299_0, hx299_1, hx299_2, hx299_3, hx299_4, hx299_5, hx299_6, hx299_7, hx299_8, hx299_9, hx299_10, hx299_11⟩ := at_T42 HR0_2.out x3_1 p299 q299
             have hw299_11 := hx299_11
             have hw299_10 := hx299_10
             have hw299_9 := hx299_9
             have hw299_8 := hx299_8
             have hw299_7 := hx299_7
             have hw299_6 := hx299_6
             have hw299_5 := hx299_5
             have hw299_4 := hx299_4
             have hw299_3 := hx299_3
             have hw299_2 := hx299_2
             have hw299_1 := hx299_1
             have hw299_0 := hx299_0
             cases e299
             replace hx299_0 := (HB.out.cell (World.block_lt_of_cell? w _ hx299_0)).trans hx299_0
             replace hx299_1 := (HB.out.cell (World.block_lt_of_cell? w _ hx299_1)).trans hx299_1
             replace hx299_2 := (HB.out.cell (World.block_lt_of_cell? w _ hx299_2)).trans hx299_2
             replace hx299_3 := (HB.out.cell (World.block_lt_of_cell? w _ hx299_3)).trans hx299_3
             replace hx299_4 := (HB.out.cell (World.block_lt_of_cell? w _ hx299_4)).trans hx299_4
             replace hx299_5 := (HB.out.cell (World.block_lt_of_cell? w _ hx299_5)).trans hx299_5
             replace hx299_6 := (HB.out.cell (World.block_lt_of_cell? w _ hx299_6)).trans hx299_6
             replace hx299_7 := (HB.out.cell (World.block_lt_of_cell? w _ hx299_7)).trans hx299_7
             replace hx299_8 := (HB.out.cell (World.block_lt_of_cell? w _ hx299_8)).trans hx299_8
             replace hx299_9 := (HB.out.cell (World.block_lt_of_cell? w _ hx299_9)).trans hx299_9
             replace hx299_10 := (HB.out.cell (World.block_lt_of_cell? w _ hx299_10)).trans hx299_10
             replace hx299_11 := (HB.out.cell (World.block_lt_of_cell? w _ hx299_11)).trans hx299_11
             replace p299 := eq_true p299
             replace q299 := eq_true q299
             have qhx299_0 := gw_cell (B := wr) hx299_0
             have qhx299_1 := gw_cell (B := wr) hx299_1
             have qhx299_2 := gw_cell (B := wr) hx299_2
             have qhx299_3 := gw_cell (B := wr) hx299_3
             have qhx299_4 := gw_cell (B := wr) hx299_4
             have qhx299_5 := gw_cell (B := wr) hx299_5
             have qhx299_6 := gw_cell (B := wr) hx299_6
             have qhx299_7 := gw_cell (B := wr) hx299_7
             have qhx299_8 := gw_cell (B := wr) hx299_8
             have qhx299_9 := gw_cell (B := wr) hx299_9
             have qhx299_10 := gw_cell (B := wr) hx299_10
             have qhx299_11 := gw_cell (B := wr) hx299_11
             have qhcz41_0 := gw_cell hcz41_0
             have qhcz41_1 := gw_cell hcz41_1
             have qhcz41_2 := gw_cell hcz41_2
             clear hx299_0 hx299_1 hx299_2 hx299_3 hx299_4 hx299_5 hx299_6 hx299_7 hx299_8 hx299_9 hx299_10 hx299_11
             refine wp_region_quietB (by kernel_rfl) (by kernel_rfl) ?_
             repeat (first | go_big_quiet_step ((go_at_call 32; exact quietB_of (rampartref17_Left.calls k1 ((rd_T42 l0_2 x3_1).f0) ((rd_T42 l0_2 x3_1).f1.f0) ((rd_T42 l0_2 x3_1).f1.f1) ((rd_T42 l0_2 x3_1).f1.f2) ((rd_T42 l0_2 x3_1).f1.f3) ((rd_T42 l0_2 x3_1).f1.f4) ((rd_T42 l0_2 x3_1).f2) ((rd_T42 l0_2 x3_1).f3) ((rd_T42 l0_2 x3_1).f4) ((rd_T42 l0_2 x3_1).f5.f0) ((rd_T42 l0_2 x3_1).f5.f1) ((rd_T42 l0_2 x3_1).f6) t300 _ A21.out))) | quiet_step ((go_at_call 32; exact quietB_of (rampartref17_Left.calls k1 ((rd_T42 l0_2 x3_1).f0) ((rd_T42 l0_2 x3_1).f1.f0) ((rd_T42 l0_2 x3_1).f1.f1) ((rd_T42 l0_2 x3_1).f1.f2) ((rd_T42 l0_2 x3_1).f1.f3) ((rd_T42 l0_2 x3_1).f1.f4) ((rd_T42 l0_2 x3_1).f2) ((rd_T42 l0_2 x3_1).f3) ((rd_T42 l0_2 x3_1).f4) ((rd_T42 l0_2 x3_1).f5.f0) ((rd_T42 l0_2 x3_1).f5.f1) ((rd_T42 l0_2 x3_1).f6) t300 _ A21.out))))
             refine wpQuiet_nil ?_
             rintro w9 ⟨⟨wq_, hb9⟩, hwq_⟩
             obtain rfl : w9 = wq_ := hwq_
             clear BK298 HB
             have BK298 := Aside0.mk (blk_below (g := gb298) BKo.out hb9)
             have HB := Aside0.mk (below_step HBo.out hb9)
             clear BKo HBo
             try go_wp2
             go_roundg k1
             case measure => have := HK1.out; omega
             case rel => exact ⟨(wrap64 (x3_1 + 1)), (by first | rfl | (simp; done) | (simp [*]; done)), H', ⟨by have := HK1.out; omega⟩, ⟨stp BK298⟩, ⟨by repeat (first | (with_reducible first | exact HB.out | apply below_alloc | apply pw_below_drewN | apply below_drew1 | refine below_set ?_ GE298.out) | exact HB.out)⟩⟩
         ·rw [if_neg c20] at H
          exact absurd H (by simp)
        ·rw [if_neg c19] at H
         have c19b0 : decide (x3_1 < (l0_2.length : Int)) = false := decide_eq_false c19
         clear c19
         obtain rfl := Option.some.inj H
         have hcz44_0 : wr.cell? ⟨gb298, 0, none⟩ = some (.int .i64 a0_0) := (blk_cell BK298.out 0).trans rfl
         have hcz44_1 : wr.cell? ⟨gb298, 1, none⟩ = some (.int .i64 a0_1) := (blk_cell BK298.out 1).trans rfl
         have hcz44_2 : wr.cell? ⟨gb298, 2, none⟩ = some (.slice A0_2 l0_2.length c0_2) := (blk_cell BK298.out 2).trans rfl
         have hfz44_0 := blk_frozen BK298.out 0
         have hfz44_1 := blk_frozen BK298.out 1
         have hfz44_2 := blk_frozen BK298.out 2
         go_wp2
         go_ret
         exact ⟨by first | rfl | (simp [*, errW_none, errW_some] <;> rfl), by repeat (first | (with_reducible first | exact HB.out | apply below_alloc | apply pw_below_drewN | apply below_drew1 | refine below_set ?_ GE298.out) | exact HB.out)⟩

end Go.Proofs.Ytkkgnmfahhkajaa.Q
