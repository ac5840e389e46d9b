-- Printed by a program of this session (wip/tools: the kit's printer, with functions proved by hand let in).
import Derived.Test.YtkkgnmfahhkajaaQx0
import Derived.Test.YtkkgnmfahhkajaaQx9
import Derived.Test.YtkkgnmfahhkajaaQx10
namespace Go.Proofs.Ytkkgnmfahhkajaa.Q
open Go.RowKit Go.Proofs.YtkkgnmfahhkajaaW.PrintWords Go.Proofs.YtkkgnmfahhkajaaW.PrintLast Go.Proofs.YtkkgnmfahhkajaaW.PrintMore
attribute [local go_sem] max2_int min2_int max_two min_two max_three min_three max_four min_four   -- for this text's walks alone
set_option linter.unusedVariables false
set_option linter.unusedSimpArgs false

/-! ### rampartref18_Work: function 19 -/
def rampartref18_Work.l0 : Nat → Int → Int → Int → Int → List (S42) → Option (Int)
 | 0, _, _, _, _, _ => none
 | k + 1, x3, x4, x394000, x394001, x394002 => if x4 < (x394002.length : Int) then ((rampartref18_Check.f k x394000 x394001 x394002).bind fun t394 => (if t394 = 0 then (if 0 ≤ x4 then ((rampartref17_Left.f k ((rd_T42 x394002 x4).f0) ((rd_T42 x394002 x4).f1.f0) ((rd_T42 x394002 x4).f1.f1) ((rd_T42 x394002 x4).f1.f2) ((rd_T42 x394002 x4).f1.f3) ((rd_T42 x394002 x4).f1.f4) ((rd_T42 x394002 x4).f2) ((rd_T42 x394002 x4).f3) ((rd_T42 x394002 x4).f4) ((rd_T42 x394002 x4).f5.f0) ((rd_T42 x394002 x4).f5.f1) ((rd_T42 x394002 x4).f6)).bind fun t396 => (rampartref18_Work.l0 k (wrap64 (x3 + t396)) (wrap64 (x4 + 1)) x394000 x394001 x394002)) else (none)) else (some x3))) else (some x3)
def rampartref18_Work.f (k : Nat) (a0_0 : Int) (a0_1 : Int) (l0_2 : List (S42)) : Option (Int) := rampartref18_Work.l0 k 0 0 a0_0 a0_1 l0_2
theorem rampartref18_Work.mono_l : ∀ k, (∀ y0 y1 y2 y3 y4, LeO (rampartref18_Work.l0 k y0 y1 y2 y3 y4) (rampartref18_Work.l0 (k + 1) y0 y1 y2 y3 y4))
 | 0 => fun _ _ _ _ _ r h => by simp [rampartref18_Work.l0] at h
 | k + 1 => by
  have ih0 := rampartref18_Work.mono_l k
  ·intro y0 y1 y2 y3 y4
   unfold rampartref18_Work.l0
   repeat' first
   | (with_reducible exact ih0 _ _ _ _ _)
   | (with_reducible exact rampartref17_Left.mono _ _ _ _ _ _ _ _ _ _ _ _ _)
   | (with_reducible exact rampartref18_Check.mono _ _ _ _)
   | (with_reducible exact LeO.refl _)
   | (with_reducible exact LeO.none _)
   | (with_reducible refine LeO.ite ?_ ?_)
   | (with_reducible refine LeO.bind ?_ (fun _ => ?_))
   | exact ih0 _ _ _ _ _
   | exact rampartref17_Left.mono _ _ _ _ _ _ _ _ _ _ _ _ _
   | exact rampartref18_Check.mono _ _ _ _
   | exact LeO.none _
   | refine LeO.ite ?_ ?_
   | refine LeO.bind ?_ (fun _ => ?_)
theorem rampartref18_Work.mono : ∀ a0 a1 a2 k, LeO (rampartref18_Work.f k a0 a1 a2) (rampartref18_Work.f (k + 1) a0 a1 a2) := by
 intro a0 a1 a2 k
 have ih0 := rampartref18_Work.mono_l k
 unfold rampartref18_Work.f
 repeat' first
   | (with_reducible exact ih0 _ _ _ _ _)
   | (with_reducible exact rampartref17_Left.mono _ _ _ _ _ _ _ _ _ _ _ _ _)
   | (with_reducible exact rampartref18_Check.mono _ _ _ _)
   | (with_reducible exact LeO.refl _)
   | (with_reducible exact LeO.none _)
   | (with_reducible refine LeO.ite ?_ ?_)
   | (with_reducible refine LeO.bind ?_ (fun _ => ?_))
   | exact ih0 _ _ _ _ _
   | exact rampartref17_Left.mono _ _ _ _ _ _ _ _ _ _ _ _ _
   | exact rampartref18_Check.mono _ _ _ _
   | exact LeO.none _
   | refine LeO.ite ?_ ?_
   | refine LeO.bind ?_ (fun _ => ?_)
set_option maxHeartbeats 8000000 in
set_option maxRecDepth 100000 in
theorem rampartref18_Work.calls (k : Nat) (a0_0 : Int) (a0_1 : Int) (A0_2 : Option Addr) (c0_2 : Nat) (l0_2 : List (S42)) (r : Int) (w : World) (hr0_2 : Kd.C k42 w A0_2 l0_2.length l0_2) (hc0_2 : l0_2.length ≤ c0_2) (h : rampartref18_Work.f k a0_0 a0_1 l0_2 = some r) :
  Calls Try.prog 19 #[.agg #[.int .i64 a0_0, .int .i64 a0_1, .slice A0_2 l0_2.length c0_2]] w fun e w' => e = .returned (.int .i64 r) ∧ Below w.heap.size w w' := by
 have hu24 := Try.underlying24
 have hu42 := Try.underlying42
 have HR0_2 := Aside0.mk hr0_2
 have HC0_2 := Aside0.mk hc0_2
 clear hr0_2 hc0_2
 have HB := Aside0.mk (Below.refl w.heap.size w)
 have H : (rampartref18_Work.l0 k 0 0 a0_0 a0_1 l0_2) = some r := h
 clear h
 have H' := Aside0.mk H
 clear H
 go_enter Try.func19, Try.ntmps19
 go_wp2_with (first | ((with_reducible refine gate_dst (N := 1) rfl ?_); refine box_event ?hg (N := 1) ?hd (cs := #[.int .i64 a0_0, .int .i64 a0_1, .slice A0_2 l0_2.length c0_2]) (t := 24) ?hr ?_; (case hd => rfl); (case hg => rfl); (case hr => first | (go_simp; done) | (go_simp; rfl)); intro gb393 hg w2 hbox hb; have ⟨n0_, n2_⟩ := pkB (stb HB) hb hg; have n3_ := n2_; have n1_ := Aside0.mk (hbox); clear HB; have HB := n0_; have BK393 := n1_; have GW393 := n2_; have GE393 := n3_; clear n0_ n1_ n2_ n3_; clear hb hbox hg))
 go_loopg [3, 4] k (fun kq v3 v4 w' => ∃ (x3_1 : Int) (x4_1 : Int), v3 = .int .i64 x3_1 ∧ v4 = .int .i64 x4_1 ∧ Aside0 (rampartref18_Work.l0 kq x3_1 x4_1 a0_0 a0_1 l0_2 = some r) ∧ Aside0 (kq ≤ k) ∧ Aside0 (w'.heap[gb393]? = some (.cells #[.int .i64 a0_0, .int .i64 a0_1, (.slice A0_2 l0_2.length c0_2)] 24 (0, 0))) ∧ Aside0 (Below w.heap.size w w'))
 case atStart => exact ⟨(0), (0), (by first | rfl | (simp; done) | (simp [*]; done)), (by first | rfl | (simp; done) | (simp [*]; done)), H', ⟨Nat.le_refl _⟩, ⟨stp BK393⟩, ⟨by repeat (first | (with_reducible first | exact HB.out | apply below_alloc | apply pw_below_drewN | apply below_drew1 | refine below_set ?_ GE393.out) | exact HB.out)⟩⟩
 case round =>
  clear H'
  try clear c1
  try clear p2
  obtain ⟨x3_1, x4_1, rfl, rfl, HA, HK1, BK393, HB⟩ := hrel
  cases gk with
  | zero => exact absurd HA.out (by simp [rampartref18_Work.l0])
  | succ k1 =>
   have H := HA.out
   clear HA
   simp only [rampartref18_Work.l0] at H
   by_cases c3 : x4_1 < (l0_2.length : Int)
   ·rw [if_pos c3] at H
    have c3b0 : decide (x4_1 < (l0_2.length : Int)) = true := decide_eq_true c3
    clear c3
    replace H := Option.bind_eq_some_iff.mp H
    obtain ⟨t394, A40, H⟩ := H
    replace H : (if t394 = 0 then (if 0 ≤ x4_1 then ((rampartref17_Left.f k1 ((rd_T42 l0_2 x4_1).f0) ((rd_T42 l0_2 x4_1).f1.f0) ((rd_T42 l0_2 x4_1).f1.f1) ((rd_T42 l0_2 x4_1).f1.f2) ((rd_T42 l0_2 x4_1).f1.f3) ((rd_T42 l0_2 x4_1).f1.f4) ((rd_T42 l0_2 x4_1).f2) ((rd_T42 l0_2 x4_1).f3) ((rd_T42 l0_2 x4_1).f4) ((rd_T42 l0_2 x4_1).f5.f0) ((rd_T42 l0_2 x4_1).f5.f1) ((rd_T42 l0_2 x4_1).f6)).bind fun t396 => (rampartref18_Work.l0 k1 (wrap64 (x3_1 + t396)) (wrap64 (x4_1 + 1)) a0_0 a0_1 l0_2)) else (none)) else (some x3_1)) = some r := H
    have A4 := Aside0.mk A40
    clear A40
    by_cases c5 : t394 = 0
    ·rw [if_pos c5] at H
     have c5b0 : (t394 == 0) = true := beq_iff_eq.mpr c5
     have c5b1 : (t394 != 0) = false := bne_eq_false_iff_eq.mpr c5
     clear c5
     by_cases c6 : 0 ≤ x4_1
     ·rw [if_pos c6] at H
      have c6b0 : decide (0 ≤ x4_1) = true := decide_eq_true c6
      clear c6
      replace H := Option.bind_eq_some_iff.mp H
      obtain ⟨t396, A70, H⟩ := H
      replace H : (rampartref18_Work.l0 k1 (wrap64 (x3_1 + t396)) (wrap64 (x4_1 + 1)) a0_0 a0_1 l0_2) = some r := H
      have A7 := Aside0.mk A70
      clear A70
      have H' := Aside0.mk H
      clear H
      have hcz8_0 : wr.cell? ⟨gb393, 0, none⟩ = some (.int .i64 a0_0) := (blk_cell BK393.out 0).trans rfl
      have hcz8_1 : wr.cell? ⟨gb393, 1, none⟩ = some (.int .i64 a0_1) := (blk_cell BK393.out 1).trans rfl
      have hcz8_2 : wr.cell? ⟨gb393, 2, none⟩ = some (.slice A0_2 l0_2.length c0_2) := (blk_cell BK393.out 2).trans rfl
      have hfz8_0 := blk_frozen BK393.out 0
      have hfz8_1 := blk_frozen BK393.out 1
      have hfz8_2 := blk_frozen BK393.out 2
      go_wp2_with (first | (go_at_call 21; (with_reducible refine (rampartref18_Check.calls k1 a0_0 a0_1 _ _ l0_2 t394 _ ?side1 ?side2 A4.out).mono ?_); (case side1 => repeat (first | exact (Kd.C_below HR0_2.out HB.out) | (with_reducible refine Kd.C_alloc ?_ _) | (with_reducible refine Kd.C_drewN ?_ _) | (with_reducible refine Kd.C_drew ?_))); (case side2 => exact HC0_2.out); rintro e w9 ⟨rfl, hb⟩; have n0_ := Aside0.mk (blk_below (stp BK393) hb); have n1_ := Aside0.mk (below_step (by repeat (first | (with_reducible first | exact HB.out | apply below_alloc | apply pw_below_drewN | apply below_drew1 | refine below_set ?_ GE393.out) | exact HB.out)) hb); clear BK393; clear HB; have BK393 := n0_; have HB := n1_; clear n0_ n1_; (try clear hb); (try clear hb2); (try clear hk); (try clear hi); have hcz10_0 : w9.cell? ⟨gb393, 0, none⟩ = some (.int .i64 a0_0) := (blk_cell BK393.out 0).trans rfl; have hcz10_1 : w9.cell? ⟨gb393, 1, none⟩ = some (.int .i64 a0_1) := (blk_cell BK393.out 1).trans rfl; have hcz10_2 : w9.cell? ⟨gb393, 2, none⟩ = some (.slice A0_2 l0_2.length c0_2) := (blk_cell BK393.out 2).trans rfl; have hfz10_0 := blk_frozen BK393.out 0; have hfz10_1 := blk_frozen BK393.out 1; have hfz10_2 := blk_frozen BK393.out 2; have p395 : 0 ≤ (x4_1 : Int) := of_decide_eq_true (by first | (with_reducible assumption) | assumption); have q395 : x4_1 < (l0_2.length : Int) := of_decide_eq_true (by first | (with_reducible assumption) | assumption); obtain ⟨ad395, e395, hx395_0, hx395_1, hx395_2, hx395_3, hx395_4, hx395_5, hx395_6, hx395_7, hx395_8, hx395_9, hx395_10, hx395_11⟩ := at_T42 HR0_2.out x4_1 p395 q395; cases e395; replace hx395_0 := (HB.out.cell (World.block_lt_of_cell? w _ hx395_0)).trans hx395_0; replace hx395_1 := (HB.out.cell (World.block_lt_of_cell? w _ hx395_1)).trans hx395_1; replace hx395_2 := (HB.out.cell (World.block_lt_of_cell? w _ hx395_2)).trans hx395_2; replace hx395_3 := (HB.out.cell (World.block_lt_of_cell? w _ hx395_3)).trans hx395_3; replace hx395_4 := (HB.out.cell (World.block_lt_of_cell? w _ hx395_4)).trans hx395_4; replace hx395_5 := (HB.out.cell (World.block_lt_of_cell? w _ hx395_5)).trans hx395_5; replace hx395_6 := (HB.out.cell (World.block_lt_of_cell? w _ hx395_6)).trans hx395_6; replace hx395_7 := (HB.out.cell (World.block_lt_of_cell? w _ hx395_7)).trans hx395_7; replace hx395_8 := (HB.out.cell (World.block_lt_of_cell? w _ hx395_8)).trans hx395_8; replace hx395_9 := (HB.out.cell (World.block_lt_of_cell? w _ hx395_9)).trans hx395_9; replace hx395_10 := (HB.out.cell (World.block_lt_of_cell? w _ hx395_10)).trans hx395_10; replace hx395_11 := (HB.out.cell (World.block_lt_of_cell? w _ hx395_11)).trans hx395_11; replace p395 := eq_true p395; replace q395 := eq_true q395) | ((with_reducible refine gate_callee (f := 32) rfl ?_); refine goesL_ (some 23) rfl rfl Try.func32 (by kernel_rfl) rfl #[.agg #[.int .i64 ((rd_T42 l0_2 x4_1).f0), .int .u8 ((rd_T42 l0_2 x4_1).f1.f0), .int .u8 ((rd_T42 l0_2 x4_1).f1.f1), .int .u8 ((rd_T42 l0_2 x4_1).f1.f2), .int .u32 ((rd_T42 l0_2 x4_1).f1.f3), .int .u64 ((rd_T42 l0_2 x4_1).f1.f4), .int .i64 ((rd_T42 l0_2 x4_1).f2), .int .i64 ((rd_T42 l0_2 x4_1).f3), .int .i64 ((rd_T42 l0_2 x4_1).f4), .int .u64 ((rd_T42 l0_2 x4_1).f5.f0), .int .u64 ((rd_T42 l0_2 x4_1).f5.f1), .int .u64 ((rd_T42 l0_2 x4_1).f6)]] rfl (by (try simp only [List.map_toArray, List.map_cons, List.map_nil]); first | done | rfl | (simp only [List.length_drop, List.length_take]; rfl)) ?_; (with_reducible refine (rampartref17_Left.calls k1 ((rd_T42 l0_2 x4_1).f0) ((rd_T42 l0_2 x4_1).f1.f0) ((rd_T42 l0_2 x4_1).f1.f1) ((rd_T42 l0_2 x4_1).f1.f2) ((rd_T42 l0_2 x4_1).f1.f3) ((rd_T42 l0_2 x4_1).f1.f4) ((rd_T42 l0_2 x4_1).f2) ((rd_T42 l0_2 x4_1).f3) ((rd_T42 l0_2 x4_1).f4) ((rd_T42 l0_2 x4_1).f5.f0) ((rd_T42 l0_2 x4_1).f5.f1) ((rd_T42 l0_2 x4_1).f6) t396 _ A7.out).mono ?_); rintro e w11 ⟨rfl, hb⟩; refine ⟨_, rfl, ?_⟩; have n0_ := Aside0.mk (blk_below (stp BK393) hb); have n1_ := Aside0.mk (below_step (by repeat (first | (with_reducible first | exact HB.out | apply below_alloc | apply pw_below_drewN | apply below_drew1 | refine below_set ?_ GE393.out) | exact HB.out)) hb); clear BK393; clear HB; have BK393 := n0_; have HB := n1_; clear n0_ n1_; (try clear hb); (try clear hb2); (try clear hk); (try clear hi)))
      go_roundg k1
      case measure => have := HK1.out; omega
      case rel => exact ⟨(wrap64 (x3_1 + t396)), (wrap64 (x4_1 + 1)), (by first | rfl | (simp; done) | (simp [*]; done)), (by first | rfl | (simp; done) | (simp [*]; done)), H', ⟨by have := HK1.out; omega⟩, ⟨stp BK393⟩, ⟨by repeat (first | (with_reducible first | exact HB.out | apply below_alloc | apply pw_below_drewN | apply below_drew1 | refine below_set ?_ GE393.out) | exact HB.out)⟩⟩
     ·rw [if_neg c6] at H
      exact absurd H (by simp)
    ·rw [if_neg c5] at H
     have c5b0 : (t394 == 0) = false := beq_eq_false_iff_ne.mpr c5
     have c5b1 : (t394 != 0) = true := bne_iff_ne.mpr c5
     obtain rfl := Option.some.inj H
     have hcz12_0 : wr.cell? ⟨gb393, 0, none⟩ = some (.int .i64 a0_0) := (blk_cell BK393.out 0).trans rfl
     have hcz12_1 : wr.cell? ⟨gb393, 1, none⟩ = some (.int .i64 a0_1) := (blk_cell BK393.out 1).trans rfl
     have hcz12_2 : wr.cell? ⟨gb393, 2, none⟩ = some (.slice A0_2 l0_2.length c0_2) := (blk_cell BK393.out 2).trans rfl
     have hfz12_0 := blk_frozen BK393.out 0
     have hfz12_1 := blk_frozen BK393.out 1
     have hfz12_2 := blk_frozen BK393.out 2
     go_wp2_with (first | (go_at_call 21; (with_reducible refine (rampartref18_Check.calls k1 a0_0 a0_1 _ _ l0_2 t394 _ ?side1 ?side2 A4.out).mono ?_); (case side1 => repeat (first | exact (Kd.C_below HR0_2.out HB.out) | (with_reducible refine Kd.C_alloc ?_ _) | (with_reducible refine Kd.C_drewN ?_ _) | (with_reducible refine Kd.C_drew ?_))); (case side2 => exact HC0_2.out); rintro e w13 ⟨rfl, hb⟩; have n0_ := Aside0.mk (blk_below (stp BK393) hb); have n1_ := Aside0.mk (below_step (by repeat (first | (with_reducible first | exact HB.out | apply below_alloc | apply pw_below_drewN | apply below_drew1 | refine below_set ?_ GE393.out) | exact HB.out)) hb); clear BK393; clear HB; have BK393 := n0_; have HB := n1_; clear n0_ n1_; (try clear hb); (try clear hb2); (try clear hk); (try clear hi)))
     go_ret
     exact ⟨by first | rfl | (simp [*, errW_none, errW_some] <;> rfl), by repeat (first | (with_reducible first | exact HB.out | apply below_alloc | apply pw_below_drewN | apply below_drew1 | refine below_set ?_ GE393.out) | exact HB.out)⟩
   ·rw [if_neg c3] at H
    have c3b0 : decide (x4_1 < (l0_2.length : Int)) = false := decide_eq_false c3
    clear c3
    obtain rfl := Option.some.inj H
    have hcz14_0 : wr.cell? ⟨gb393, 0, none⟩ = some (.int .i64 a0_0) := (blk_cell BK393.out 0).trans rfl
    have hcz14_1 : wr.cell? ⟨gb393, 1, none⟩ = some (.int .i64 a0_1) := (blk_cell BK393.out 1).trans rfl
    have hcz14_2 : wr.cell? ⟨gb393, 2, none⟩ = some (.slice A0_2 l0_2.length c0_2) := (blk_cell BK393.out 2).trans rfl
    have hfz14_0 := blk_frozen BK393.out 0
    have hfz14_1 := blk_frozen BK393.out 1
    have hfz14_2 := blk_frozen BK393.out 2
    go_wp2
    go_ret
    exact ⟨by first | rfl | (simp [*, errW_none, errW_some] <;> rfl), by repeat (first | (with_reducible first | exact HB.out | apply below_alloc | apply pw_below_drewN | apply below_drew1 | refine below_set ?_ GE393.out) | exact HB.out)⟩

-- NOT PRINTED: function 4 (rampartlaw18_PendSets)

-- NOT PRINTED: function 5 (rampartlaw18_PendAges)

end Go.Proofs.Ytkkgnmfahhkajaa.Q
