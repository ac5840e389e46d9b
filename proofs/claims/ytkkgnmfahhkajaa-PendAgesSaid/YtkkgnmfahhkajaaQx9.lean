-- Printed by a program of this session (wip/tools: the kit's printer, with functions proved by hand let in).
import Derived.Test.YtkkgnmfahhkajaaQx0
import Derived.Test.YtkkgnmfahhkajaaQx7
import Derived.Test.YtkkgnmfahhkajaaQx8
namespace Go.Proofs.Ytkkgnmfahhkajaa.Q
open Go.RowKit Go.Proofs.YtkkgnmfahhkajaaW.PrintWords Go.Proofs.YtkkgnmfahhkajaaW.PrintLast Go.Proofs.YtkkgnmfahhkajaaW.PrintMore
attribute [local go_sem] max2_int min2_int max_two min_two max_three min_three max_four min_four   -- for this text's walks alone
set_option linter.unusedVariables false
set_option linter.unusedSimpArgs false

/-! ### rampartref17_place: function 46 -/
def rampartref17_place.l0 : Nat → List Int → Int → Int → Int → Int → Int → Int → Int → Int → Int → Int → Int → Int → Int → Option (Int)
 | 0, _, _, _, _, _, _, _, _, _, _, _, _, _, _ => none
 | k + 1, x3, x4, x288000, x288001, x288002, x288003, x288004, x288005, x288006, x288007, x288008, x288009, x288010, x288011 => if x4 < (x3.length : Int) then (if 0 ≤ x4 then (if (rd x3 x4) = x288006 then (some x4) else (rampartref17_place.l0 k x3 (wrap64 (x4 + 1)) x288000 x288001 x288002 x288003 x288004 x288005 x288006 x288007 x288008 x288009 x288010 x288011)) else (none)) else (some (-1))
def rampartref17_place.f (k : Nat) (a0_0 : Int) (a0_1 : Int) (a0_2 : Int) (a0_3 : Int) (a0_4 : Int) (a0_5 : Int) (a0_6 : Int) (a0_7 : Int) (a0_8 : Int) (a0_9 : Int) (a0_10 : Int) (a0_11 : Int) : Option (Int) := if a0_0 < 1 then (some (-1)) else ((rampartref03_Is.f a0_1 a0_2 a0_3 a0_4 a0_5).bind fun t288 => (if t288 = true then ((rampartref17_Steps.f a0_1).bind fun t289 => (rampartref17_place.l0 k t289 0 a0_0 a0_1 a0_2 a0_3 a0_4 a0_5 a0_6 a0_7 a0_8 a0_9 a0_10 a0_11)) else (some (-1))))
theorem rampartref17_place.mono_l : ∀ k, (∀ y0 y1 y2 y3 y4 y5 y6 y7 y8 y9 y10 y11 y12 y13, LeO (rampartref17_place.l0 k y0 y1 y2 y3 y4 y5 y6 y7 y8 y9 y10 y11 y12 y13) (rampartref17_place.l0 (k + 1) y0 y1 y2 y3 y4 y5 y6 y7 y8 y9 y10 y11 y12 y13))
 | 0 => fun _ _ _ _ _ _ _ _ _ _ _ _ _ _ r h => by simp [rampartref17_place.l0] at h
 | k + 1 => by
  have ih0 := rampartref17_place.mono_l k
  ·intro y0 y1 y2 y3 y4 y5 y6 y7 y8 y9 y10 y11 y12 y13
   unfold rampartref17_place.l0
   repeat' first
   | (with_reducible exact ih0 _ _ _ _ _ _ _ _ _ _ _ _ _ _)
   | (with_reducible exact LeO.refl _)
   | (with_reducible exact LeO.none _)
   | (with_reducible refine LeO.ite ?_ ?_)
   | (with_reducible refine LeO.bind ?_ (fun _ => ?_))
   | exact ih0 _ _ _ _ _ _ _ _ _ _ _ _ _ _
   | exact LeO.none _
   | refine LeO.ite ?_ ?_
   | refine LeO.bind ?_ (fun _ => ?_)
theorem rampartref17_place.mono : ∀ a0 a1 a2 a3 a4 a5 a6 a7 a8 a9 a10 a11 k, LeO (rampartref17_place.f k a0 a1 a2 a3 a4 a5 a6 a7 a8 a9 a10 a11) (rampartref17_place.f (k + 1) a0 a1 a2 a3 a4 a5 a6 a7 a8 a9 a10 a11) := by
 intro a0 a1 a2 a3 a4 a5 a6 a7 a8 a9 a10 a11 k
 have ih0 := rampartref17_place.mono_l k
 unfold rampartref17_place.f
 repeat' first
   | (with_reducible exact ih0 _ _ _ _ _ _ _ _ _ _ _ _ _ _)
   | (with_reducible exact LeO.refl _)
   | (with_reducible exact LeO.none _)
   | (with_reducible refine LeO.ite ?_ ?_)
   | (with_reducible refine LeO.bind ?_ (fun _ => ?_))
   | exact ih0 _ _ _ _ _ _ _ _ _ _ _ _ _ _
   | exact LeO.none _
   | refine LeO.ite ?_ ?_
   | refine LeO.bind ?_ (fun _ => ?_)
set_option maxHeartbeats 8000000 in
set_option maxRecDepth 100000 in
theorem rampartref17_place.calls (k : Nat) (a0_0 : Int) (a0_1 : Int) (a0_2 : Int) (a0_3 : Int) (a0_4 : Int) (a0_5 : Int) (a0_6 : Int) (a0_7 : Int) (a0_8 : Int) (a0_9 : Int) (a0_10 : Int) (a0_11 : Int) (r : Int) (w : World) (h : rampartref17_place.f k a0_0 a0_1 a0_2 a0_3 a0_4 a0_5 a0_6 a0_7 a0_8 a0_9 a0_10 a0_11 = some r) :
  Calls Try.prog 46 #[.agg #[.int .i64 a0_0, .int .u8 a0_1, .int .u8 a0_2, .int .u8 a0_3, .int .u32 a0_4, .int .u64 a0_5, .int .i64 a0_6, .int .i64 a0_7, .int .i64 a0_8, .int .u64 a0_9, .int .u64 a0_10, .int .u64 a0_11]] w fun e w' => e = .returned (.int .i64 r) ∧ Below w.heap.size w w' := by
 have hu42 := Try.underlying42
 have hu29 := Try.underlying29
 have HB := Aside0.mk (Below.refl w.heap.size w)
 have H : (if a0_0 < 1 then (some (-1)) else ((rampartref03_Is.f a0_1 a0_2 a0_3 a0_4 a0_5).bind fun t288 => (if t288 = true then ((rampartref17_Steps.f a0_1).bind fun t289 => (rampartref17_place.l0 k t289 0 a0_0 a0_1 a0_2 a0_3 a0_4 a0_5 a0_6 a0_7 a0_8 a0_9 a0_10 a0_11)) else (some (-1))))) = some r := h
 clear h
 by_cases c2 : a0_0 < 1
 ·rw [if_pos c2] at H
  have c2b0 : decide (a0_0 < 1) = true := decide_eq_true c2
  clear c2
  obtain rfl := Option.some.inj H
  go_enter Try.func46, Try.ntmps46
  go_wp2_with (first | ((with_reducible refine gate_dst (N := 1) rfl ?_); refine box_event ?hg (N := 1) ?hd (cs := #[.int .i64 a0_0, .int .u8 a0_1, .int .u8 a0_2, .int .u8 a0_3, .int .u32 a0_4, .int .u64 a0_5, .int .i64 a0_6, .int .i64 a0_7, .int .i64 a0_8, .int .u64 a0_9, .int .u64 a0_10, .int .u64 a0_11]) (t := 42) ?hr ?_; (case hd => rfl); (case hg => rfl); (case hr => first | (go_simp; done) | (go_simp; rfl)); intro gb287 hg w3 hbox hb; have ⟨n0_, n2_⟩ := pkB (stb HB) hb hg; have n3_ := n2_; have n1_ := Aside0.mk (hbox); clear HB; have HB := n0_; have BK287 := n1_; have GW287 := n2_; have GE287 := n3_; clear n0_ n1_ n2_ n3_; clear hb hbox hg; have hcz4_0 : w3.cell? ⟨gb287, 0, none⟩ = some (.int .i64 a0_0) := (blk_cell BK287.out 0).trans rfl; have hcz4_1 : w3.cell? ⟨gb287, 1, none⟩ = some (.int .u8 a0_1) := (blk_cell BK287.out 1).trans rfl; have hcz4_2 : w3.cell? ⟨gb287, 2, none⟩ = some (.int .u8 a0_2) := (blk_cell BK287.out 2).trans rfl; have hcz4_3 : w3.cell? ⟨gb287, 3, none⟩ = some (.int .u8 a0_3) := (blk_cell BK287.out 3).trans rfl; have hcz4_4 : w3.cell? ⟨gb287, 4, none⟩ = some (.int .u32 a0_4) := (blk_cell BK287.out 4).trans rfl; have hcz4_5 : w3.cell? ⟨gb287, 5, none⟩ = some (.int .u64 a0_5) := (blk_cell BK287.out 5).trans rfl; have hcz4_6 : w3.cell? ⟨gb287, 6, none⟩ = some (.int .i64 a0_6) := (blk_cell BK287.out 6).trans rfl; have hcz4_7 : w3.cell? ⟨gb287, 7, none⟩ = some (.int .i64 a0_7) := (blk_cell BK287.out 7).trans rfl; have hcz4_8 : w3.cell? ⟨gb287, 8, none⟩ = some (.int .i64 a0_8) := (blk_cell BK287.out 8).trans rfl; have hcz4_9 : w3.cell? ⟨gb287, 9, none⟩ = some (.int .u64 a0_9) := (blk_cell BK287.out 9).trans rfl; have hcz4_10 : w3.cell? ⟨gb287, 10, none⟩ = some (.int .u64 a0_10) := (blk_cell BK287.out 10).trans rfl; have hcz4_11 : w3.cell? ⟨gb287, 11, none⟩ = some (.int .u64 a0_11) := (blk_cell BK287.out 11).trans rfl; have hfz4_0 := blk_frozen BK287.out 0; have hfz4_1 := blk_frozen BK287.out 1; have hfz4_2 := blk_frozen BK287.out 2; have hfz4_3 := blk_frozen BK287.out 3; have hfz4_4 := blk_frozen BK287.out 4; have hfz4_5 := blk_frozen BK287.out 5; have hfz4_6 := blk_frozen BK287.out 6; have hfz4_7 := blk_frozen BK287.out 7; have hfz4_8 := blk_frozen BK287.out 8; have hfz4_9 := blk_frozen BK287.out 9; have hfz4_10 := blk_frozen BK287.out 10; have hfz4_11 := blk_frozen BK287.out 11))
  repeat (go_quiet (first | ((with_reducible refine gate_dst (N := 1) rfl ?_); refine box_event ?hg (N := 1) ?hd (cs := #[.int .i64 a0_0, .int .u8 a0_1, .int .u8 a0_2, .int .u8 a0_3, .int .u32 a0_4, .int .u64 a0_5, .int .i64 a0_6, .int .i64 a0_7, .int .i64 a0_8, .int .u64 a0_9, .int .u64 a0_10, .int .u64 a0_11]) (t := 42) ?hr ?_; (case hd => rfl); (case hg => rfl); (case hr => first | (go_simp; done) | (go_simp; rfl)); intro gb287 hg w3 hbox hb; have ⟨n0_, n2_⟩ := pkB (stb HB) hb hg; have n3_ := n2_; have n1_ := Aside0.mk (hbox); clear HB; have HB := n0_; have BK287 := n1_; have GW287 := n2_; have GE287 := n3_; clear n0_ n1_ n2_ n3_; clear hb hbox hg; have hcz4_0 : w3.cell? ⟨gb287, 0, none⟩ = some (.int .i64 a0_0) := (blk_cell BK287.out 0).trans rfl; have hcz4_1 : w3.cell? ⟨gb287, 1, none⟩ = some (.int .u8 a0_1) := (blk_cell BK287.out 1).trans rfl; have hcz4_2 : w3.cell? ⟨gb287, 2, none⟩ = some (.int .u8 a0_2) := (blk_cell BK287.out 2).trans rfl; have hcz4_3 : w3.cell? ⟨gb287, 3, none⟩ = some (.int .u8 a0_3) := (blk_cell BK287.out 3).trans rfl; have hcz4_4 : w3.cell? ⟨gb287, 4, none⟩ = some (.int .u32 a0_4) := (blk_cell BK287.out 4).trans rfl; have hcz4_5 : w3.cell? ⟨gb287, 5, none⟩ = some (.int .u64 a0_5) := (blk_cell BK287.out 5).trans rfl; have hcz4_6 : w3.cell? ⟨gb287, 6, none⟩ = some (.int .i64 a0_6) := (blk_cell BK287.out 6).trans rfl; have hcz4_7 : w3.cell? ⟨gb287, 7, none⟩ = some (.int .i64 a0_7) := (blk_cell BK287.out 7).trans rfl; have hcz4_8 : w3.cell? ⟨gb287, 8, none⟩ = some (.int .i64 a0_8) := (blk_cell BK287.out 8).trans rfl; have hcz4_9 : w3.cell? ⟨gb287, 9, none⟩ = some (.int .u64 a0_9) := (blk_cell BK287.out 9).trans rfl; have hcz4_10 : w3.cell? ⟨gb287, 10, none⟩ = some (.int .u64 a0_10) := (blk_cell BK287.out 10).trans rfl; have hcz4_11 : w3.cell? ⟨gb287, 11, none⟩ = some (.int .u64 a0_11) := (blk_cell BK287.out 11).trans rfl; have hfz4_0 := blk_frozen BK287.out 0; have hfz4_1 := blk_frozen BK287.out 1; have hfz4_2 := blk_frozen BK287.out 2; have hfz4_3 := blk_frozen BK287.out 3; have hfz4_4 := blk_frozen BK287.out 4; have hfz4_5 := blk_frozen BK287.out 5; have hfz4_6 := blk_frozen BK287.out 6; have hfz4_7 := blk_frozen BK287.out 7; have hfz4_8 := blk_frozen BK287.out 8; have hfz4_9 := blk_frozen BK287.out 9; have hfz4_10 := blk_frozen BK287.out 10; have hfz4_11 := blk_frozen BK287.out 11)); try go_wp2_with (first | ((with_reducible refine gate_dst (N := 1) rfl ?_); refine box_event ?hg (N := 1) ?hd (cs := #[.int .i64 a0_0, .int .u8 a0_1, .int .u8 a0_2, .int .u8 a0_3, .int .u32 a0_4, .int .u64 a0_5, .int .i64 a0_6, .int .i64 a0_7, .int .i64 a0_8, .int .u64 a0_9, .int .u64 a0_10, .int .u64 a0_11]) (t := 42) ?hr ?_; (case hd => rfl); (case hg => rfl); (case hr => first | (go_simp; done) | (go_simp; rfl)); intro gb287 hg w3 hbox hb; have ⟨n0_, n2_⟩ := pkB (stb HB) hb hg; have n3_ := n2_; have n1_ := Aside0.mk (hbox); clear HB; have HB := n0_; have BK287 := n1_; have GW287 := n2_; have GE287 := n3_; clear n0_ n1_ n2_ n3_; clear hb hbox hg; have hcz4_0 : w3.cell? ⟨gb287, 0, none⟩ = some (.int .i64 a0_0) := (blk_cell BK287.out 0).trans rfl; have hcz4_1 : w3.cell? ⟨gb287, 1, none⟩ = some (.int .u8 a0_1) := (blk_cell BK287.out 1).trans rfl; have hcz4_2 : w3.cell? ⟨gb287, 2, none⟩ = some (.int .u8 a0_2) := (blk_cell BK287.out 2).trans rfl; have hcz4_3 : w3.cell? ⟨gb287, 3, none⟩ = some (.int .u8 a0_3) := (blk_cell BK287.out 3).trans rfl; have hcz4_4 : w3.cell? ⟨gb287, 4, none⟩ = some (.int .u32 a0_4) := (blk_cell BK287.out 4).trans rfl; have hcz4_5 : w3.cell? ⟨gb287, 5, none⟩ = some (.int .u64 a0_5) := (blk_cell BK287.out 5).trans rfl; have hcz4_6 : w3.cell? ⟨gb287, 6, none⟩ = some (.int .i64 a0_6) := (blk_cell BK287.out 6).trans rfl; have hcz4_7 : w3.cell? ⟨gb287, 7, none⟩ = some (.int .i64 a0_7) := (blk_cell BK287.out 7).trans rfl; have hcz4_8 : w3.cell? ⟨gb287, 8, none⟩ = some (.int .i64 a0_8) := (blk_cell BK287.out 8).trans rfl; have hcz4_9 : w3.cell? ⟨gb287, 9, none⟩ = some (.int .u64 a0_9) := (blk_cell BK287.out 9).trans rfl; have hcz4_10 : w3.cell? ⟨gb287, 10, none⟩ = some (.int .u64 a0_10) := (blk_cell BK287.out 10).trans rfl; have hcz4_11 : w3.cell? ⟨gb287, 11, none⟩ = some (.int .u64 a0_11) := (blk_cell BK287.out 11).trans rfl; have hfz4_0 := blk_frozen BK287.out 0; have hfz4_1 := blk_frozen BK287.out 1; have hfz4_2 := blk_frozen BK287.out 2; have hfz4_3 := blk_frozen BK287.out 3; have hfz4_4 := blk_frozen BK287.out 4; have hfz4_5 := blk_frozen BK287.out 5; have hfz4_6 := blk_frozen BK287.out 6; have hfz4_7 := blk_frozen BK287.out 7; have hfz4_8 := blk_frozen BK287.out 8; have hfz4_9 := blk_frozen BK287.out 9; have hfz4_10 := blk_frozen BK287.out 10; have hfz4_11 := blk_frozen BK287.out 11)))
  go_ret
  exact ⟨by first | rfl | (simp [*, errW_none, errW_some] <;> rfl), by repeat (first | (with_reducible first | exact HB.out | apply below_alloc | apply pw_below_drewN | apply below_drew1 | refine below_set ?_ GE287.out) | exact HB.out)⟩
 ·rw [if_neg c2] at H
  have c2b0 : decide (a0_0 < 1) = false := decide_eq_false c2
  clear c2
  replace H := Option.bind_eq_some_iff.mp H
  obtain ⟨t288, A50, H⟩ := H
  replace H : (if t288 = true then ((rampartref17_Steps.f a0_1).bind fun t289 => (rampartref17_place.l0 k t289 0 a0_0 a0_1 a0_2 a0_3 a0_4 a0_5 a0_6 a0_7 a0_8 a0_9 a0_10 a0_11)) else (some (-1))) = some r := H
  have A5 := Aside0.mk A50
  clear A50
  by_cases c6 : t288 = true
  ·subst c6
   have H1 : ((rampartref17_Steps.f a0_1).bind fun t289 => (rampartref17_place.l0 k t289 0 a0_0 a0_1 a0_2 a0_3 a0_4 a0_5 a0_6 a0_7 a0_8 a0_9 a0_10 a0_11)) = some r := by rw [if_pos rfl] at H; exact H
   clear H
   have H := H1
   clear H1
   replace H := Option.bind_eq_some_iff.mp H
   obtain ⟨t289, A70, H⟩ := H
   replace H : (rampartref17_place.l0 k t289 0 a0_0 a0_1 a0_2 a0_3 a0_4 a0_5 a0_6 a0_7 a0_8 a0_9 a0_10 a0_11) = some r := H
   have A7 := Aside0.mk A70
   clear A70
   have H' := Aside0.mk H
   clear H
   go_enter Try.func46, Try.ntmps46
   go_wp2_with (first | ((with_reducible refine gate_dst (N := 1) rfl ?_); refine box_event ?hg (N := 1) ?hd (cs := #[.int .i64 a0_0, .int .u8 a0_1, .int .u8 a0_2, .int .u8 a0_3, .int .u32 a0_4, .int .u64 a0_5, .int .i64 a0_6, .int .i64 a0_7, .int .i64 a0_8, .int .u64 a0_9, .int .u64 a0_10, .int .u64 a0_11]) (t := 42) ?hr ?_; (case hd => rfl); (case hg => rfl); (case hr => first | (go_simp; done) | (go_simp; rfl)); intro gb287 hg w8 hbox hb; have ⟨n0_, n2_⟩ := pkB (stb HB) hb hg; have n3_ := n2_; have n1_ := Aside0.mk (hbox); clear HB; have HB := n0_; have BK287 := n1_; have GW287 := n2_; have GE287 := n3_; clear n0_ n1_ n2_ n3_; clear hb hbox hg; have hcz9_0 : w8.cell? ⟨gb287, 0, none⟩ = some (.int .i64 a0_0) := (blk_cell BK287.out 0).trans rfl; have hcz9_1 : w8.cell? ⟨gb287, 1, none⟩ = some (.int .u8 a0_1) := (blk_cell BK287.out 1).trans rfl; have hcz9_2 : w8.cell? ⟨gb287, 2, none⟩ = some (.int .u8 a0_2) := (blk_cell BK287.out 2).trans rfl; have hcz9_3 : w8.cell? ⟨gb287, 3, none⟩ = some (.int .u8 a0_3) := (blk_cell BK287.out 3).trans rfl; have hcz9_4 : w8.cell? ⟨gb287, 4, none⟩ = some (.int .u32 a0_4) := (blk_cell BK287.out 4).trans rfl; have hcz9_5 : w8.cell? ⟨gb287, 5, none⟩ = some (.int .u64 a0_5) := (blk_cell BK287.out 5).trans rfl; have hcz9_6 : w8.cell? ⟨gb287, 6, none⟩ = some (.int .i64 a0_6) := (blk_cell BK287.out 6).trans rfl; have hcz9_7 : w8.cell? ⟨gb287, 7, none⟩ = some (.int .i64 a0_7) := (blk_cell BK287.out 7).trans rfl; have hcz9_8 : w8.cell? ⟨gb287, 8, none⟩ = some (.int .i64 a0_8) := (blk_cell BK287.out 8).trans rfl; have hcz9_9 : w8.cell? ⟨gb287, 9, none⟩ = some (.int .u64 a0_9) := (blk_cell BK287.out 9).trans rfl; have hcz9_10 : w8.cell? ⟨gb287, 10, none⟩ = some (.int .u64 a0_10) := (blk_cell BK287.out 10).trans rfl; have hcz9_11 : w8.cell? ⟨gb287, 11, none⟩ = some (.int .u64 a0_11) := (blk_cell BK287.out 11).trans rfl; have hfz9_0 := blk_frozen BK287.out 0; have hfz9_1 := blk_frozen BK287.out 1; have hfz9_2 := blk_frozen BK287.out 2; have hfz9_3 := blk_frozen BK287.out 3; have hfz9_4 := blk_frozen BK287.out 4; have hfz9_5 := blk_frozen BK287.out 5; have hfz9_6 := blk_frozen BK287.out 6; have hfz9_7 := blk_frozen BK287.out 7; have hfz9_8 := blk_frozen BK287.out 8; have hfz9_9 := blk_frozen BK287.out 9; have hfz9_10 := blk_frozen BK287.out 10; have hfz9_11 := blk_frozen BK287.out 11) | (go_at_call 41; (with_reducible refine (rampartref03_Is.calls a0_1 a0_2 a0_3 a0_4 a0_5 true _ A5.out).mono ?_); rintro e w10 ⟨rfl, hb⟩; have n0_ := Aside0.mk (blk_below (stp BK287) hb); have n1_ := Aside0.mk (below_step (by repeat (first | (with_reducible first | exact HB.out | apply below_alloc | apply pw_below_drewN | apply below_drew1 | refine below_set ?_ GE287.out) | exact HB.out)) hb); clear BK287; clear HB; have BK287 := n0_; have HB := n1_; clear n0_ n1_; (try clear hb); (try clear hb2); (try clear hk); (try clear hi); have hcz11_0 : w10.cell? ⟨gb287, 0, none⟩ = some (.int .i64 a0_0) := (blk_cell BK287.out 0).trans rfl; have hcz11_1 : w10.cell? ⟨gb287, 1, none⟩ = some (.int .u8 a0_1) := (blk_cell BK287.out 1).trans rfl; have hcz11_2 : w10.cell? ⟨gb287, 2, none⟩ = some (.int .u8 a0_2) := (blk_cell BK287.out 2).trans rfl; have hcz11_3 : w10.cell? ⟨gb287, 3, none⟩ = some (.int .u8 a0_3) := (blk_cell BK287.out 3).trans rfl; have hcz11_4 : w10.cell? ⟨gb287, 4, none⟩ = some (.int .u32 a0_4) := (blk_cell BK287.out 4).trans rfl; have hcz11_5 : w10.cell? ⟨gb287, 5, none⟩ = some (.int .u64 a0_5) := (blk_cell BK287.out 5).trans rfl; have hcz11_6 : w10.cell? ⟨gb287, 6, none⟩ = some (.int .i64 a0_6) := (blk_cell BK287.out 6).trans rfl; have hcz11_7 : w10.cell? ⟨gb287, 7, none⟩ = some (.int .i64 a0_7) := (blk_cell BK287.out 7).trans rfl; have hcz11_8 : w10.cell? ⟨gb287, 8, none⟩ = some (.int .i64 a0_8) := (blk_cell BK287.out 8).trans rfl; have hcz11_9 : w10.cell? ⟨gb287, 9, none⟩ = some (.int .u64 a0_9) := (blk_cell BK287.out 9).trans rfl; have hcz11_10 : w10.cell? ⟨gb287, 10, none⟩ = some (.int .u64 a0_10) := (blk_cell BK287.out 10).trans rfl; have hcz11_11 : w10.cell? ⟨gb287, 11, none⟩ = some (.int .u64 a0_11) := (blk_cell BK287.out 11).trans rfl; have hfz11_0 := blk_frozen BK287.out 0; have hfz11_1 := blk_frozen BK287.out 1; have hfz11_2 := blk_frozen BK287.out 2; have hfz11_3 := blk_frozen BK287.out 3; have hfz11_4 := blk_frozen BK287.out 4; have hfz11_5 := blk_frozen BK287.out 5; have hfz11_6 := blk_frozen BK287.out 6; have hfz11_7 := blk_frozen BK287.out 7; have hfz11_8 := blk_frozen BK287.out 8; have hfz11_9 := blk_frozen BK287.out 9; have hfz11_10 := blk_frozen BK287.out 10; have hfz11_11 := blk_frozen BK287.out 11) | (go_at_call 42; (with_reducible refine (rampartref17_Steps.calls a0_1 t289 _ A7.out).mono ?_); rintro e w12 ⟨v290, rfl, ho0, hb⟩; have n0_ := Aside0.mk (Kd.R_lower ho0 (below_size (by repeat (first | (with_reducible first | exact HB.out | apply below_alloc | apply pw_below_drewN | apply below_drew1 | refine below_set ?_ GE287.out) | exact HB.out)))); have n1_ := Aside0.mk (blk_below (stp BK287) hb); have n2_ := Aside0.mk (below_step (by repeat (first | (with_reducible first | exact HB.out | apply below_alloc | apply pw_below_drewN | apply below_drew1 | refine below_set ?_ GE287.out) | exact HB.out)) hb); clear BK287; clear HB; have HO291 := n0_; have BK287 := n1_; have HB := n2_; clear n0_ n1_ n2_; (try clear hb); (try clear hb2); (try clear hk); (try clear hi); (try clear ho0)))
   repeat (go_quiet (first | ((with_reducible refine gate_dst (N := 1) rfl ?_); refine box_event ?hg (N := 1) ?hd (cs := #[.int .i64 a0_0, .int .u8 a0_1, .int .u8 a0_2, .int .u8 a0_3, .int .u32 a0_4, .int .u64 a0_5, .int .i64 a0_6, .int .i64 a0_7, .int .i64 a0_8, .int .u64 a0_9, .int .u64 a0_10, .int .u64 a0_11]) (t := 42) ?hr ?_; (case hd => rfl); (case hg => rfl); (case hr => first | (go_simp; done) | (go_simp; rfl)); intro gb287 hg w8 hbox hb; have ⟨n0_, n2_⟩ := pkB (stb HB) hb hg; have n3_ := n2_; have n1_ := Aside0.mk (hbox); clear HB; have HB := n0_; have BK287 := n1_; have GW287 := n2_; have GE287 := n3_; clear n0_ n1_ n2_ n3_; clear hb hbox hg; have hcz9_0 : w8.cell? ⟨gb287, 0, none⟩ = some (.int .i64 a0_0) := (blk_cell BK287.out 0).trans rfl; have hcz9_1 : w8.cell? ⟨gb287, 1, none⟩ = some (.int .u8 a0_1) := (blk_cell BK287.out 1).trans rfl; have hcz9_2 : w8.cell? ⟨gb287, 2, none⟩ = some (.int .u8 a0_2) := (blk_cell BK287.out 2).trans rfl; have hcz9_3 : w8.cell? ⟨gb287, 3, none⟩ = some (.int .u8 a0_3) := (blk_cell BK287.out 3).trans rfl; have hcz9_4 : w8.cell? ⟨gb287, 4, none⟩ = some (.int .u32 a0_4) := (blk_cell BK287.out 4).trans rfl; have hcz9_5 : w8.cell? ⟨gb287, 5, none⟩ = some (.int .u64 a0_5) := (blk_cell BK287.out 5).trans rfl; have hcz9_6 : w8.cell? ⟨gb287, 6, none⟩ = some (.int .i64 a0_6) := (blk_cell BK287.out 6).trans rfl; have hcz9_7 : w8.cell? ⟨gb287, 7, none⟩ = some (.int .i64 a0_7) := (blk_cell BK287.out 7).trans rfl; have hcz9_8 : w8.cell? ⟨gb287, 8, none⟩ = some (.int .i64 a0_8) := (blk_cell BK287.out 8).trans rfl; have hcz9_9 : w8.cell? ⟨gb287, 9, none⟩ = some (.int .u64 a0_9) := (blk_cell BK287.out 9).trans rfl; have hcz9_10 : w8.cell? ⟨gb287, 10, none⟩ = some (.int .u64 a0_10) := (blk_cell BK287.out 10).trans rfl; have hcz9_11 : w8.cell? ⟨gb287, 11, none⟩ = some (.int .u64 a0_11) := (blk_cell BK287.out 11).trans rfl; have hfz9_0 := blk_frozen BK287.out 0; have hfz9_1 := blk_frozen BK287.out 1; have hfz9_2 := blk_frozen BK287.out 2; have hfz9_3 := blk_frozen BK287.out 3; have hfz9_4 := blk_frozen BK287.out 4; have hfz9_5 := blk_frozen BK287.out 5; have hfz9_6 := blk_frozen BK287.out 6; have hfz9_7 := blk_frozen BK287.out 7; have hfz9_8 := blk_frozen BK287.out 8; have hfz9_9 := blk_frozen BK287.out 9; have hfz9_10 := blk_frozen BK287.out 10; have hfz9_11 := blk_frozen BK287.out 11) | (go_at_call 41; (with_reducible refine (rampartref03_Is.calls a0_1 a0_2 a0_3 a0_4 a0_5 true _ A5.out).mono ?_); rintro e w10 ⟨rfl, hb⟩; have n0_ := Aside0.mk (blk_below (stp BK287) hb); have n1_ := Aside0.mk (below_step (by repeat (first | (with_reducible first | exact HB.out | apply below_alloc | apply pw_below_drewN | apply below_drew1 | refine below_set ?_ GE287.out) | exact HB.out)) hb); clear BK287; clear HB; have BK287 := n0_; have HB := n1_; clear n0_ n1_; (try clear hb); (try clear hb2); (try clear hk); (try clear hi); have hcz11_0 : w10.cell? ⟨gb287, 0, none⟩ = some (.int .i64 a0_0) := (blk_cell BK287.out 0).trans rfl; have hcz11_1 : w10.cell? ⟨gb287, 1, none⟩ = some (.int .u8 a0_1) := (blk_cell BK287.out 1).trans rfl; have hcz11_2 : w10.cell? ⟨gb287, 2, none⟩ = some (.int .u8 a0_2) := (blk_cell BK287.out 2).trans rfl; have hcz11_3 : w10.cell? ⟨gb287, 3, none⟩ = some (.int .u8 a0_3) := (blk_cell BK287.out 3).trans rfl; have hcz11_4 : w10.cell? ⟨gb287, 4, none⟩ = some (.int .u32 a0_4) := (blk_cell BK287.out 4).trans rfl; have hcz11_5 : w10.cell? ⟨gb287, 5, none⟩ = some (.int .u64 a0_5) := (blk_cell BK287.out 5).trans rfl; have hcz11_6 : w10.cell? ⟨gb287, 6, none⟩ = some (.int .i64 a0_6) := (blk_cell BK287.out 6).trans rfl; have hcz11_7 : w10.cell? ⟨gb287, 7, none⟩ = some (.int .i64 a0_7) := (blk_cell BK287.out 7).trans rfl; have hcz11_8 : w10.cell? ⟨gb287, 8, none⟩ = some (.int .i64 a0_8) := (blk_cell BK287.out 8).trans rfl; have hcz11_9 : w10.cell? ⟨gb287, 9, none⟩ = some (.int .u64 a0_9) := (blk_cell BK287.out 9).trans rfl; have hcz11_10 : w10.cell? ⟨gb287, 10, none⟩ = some (.int .u64 a0_10) := (blk_cell BK287.out 10).trans rfl; have hcz11_11 : w10.cell? ⟨gb287, 11, none⟩ = some (.int .u64 a0_11) := (blk_cell BK287.out 11).trans rfl; have hfz11_0 := blk_frozen BK287.out 0; have hfz11_1 := blk_frozen BK287.out 1; have hfz11_2 := blk_frozen BK287.out 2; have hfz11_3 := blk_frozen BK287.out 3; have hfz11_4 := blk_frozen BK287.out 4; have hfz11_5 := blk_frozen BK287.out 5; have hfz11_6 := blk_frozen BK287.out 6; have hfz11_7 := blk_frozen BK287.out 7; have hfz11_8 := blk_frozen BK287.out 8; have hfz11_9 := blk_frozen BK287.out 9; have hfz11_10 := blk_frozen BK287.out 10; have hfz11_11 := blk_frozen BK287.out 11) | (go_at_call 42; (with_reducible refine (rampartref17_Steps.calls a0_1 t289 _ A7.out).mono ?_); rintro e w12 ⟨v290, rfl, ho0, hb⟩; have n0_ := Aside0.mk (Kd.R_lower ho0 (below_size (by repeat (first | (with_reducible first | exact HB.out | apply below_alloc | apply pw_below_drewN | apply below_drew1 | refine below_set ?_ GE287.out) | exact HB.out)))); have n1_ := Aside0.mk (blk_below (stp BK287) hb); have n2_ := Aside0.mk (below_step (by repeat (first | (with_reducible first | exact HB.out | apply below_alloc | apply pw_below_drewN | apply below_drew1 | refine below_set ?_ GE287.out) | exact HB.out)) hb); clear BK287; clear HB; have HO291 := n0_; have BK287 := n1_; have HB := n2_; clear n0_ n1_ n2_; (try clear hb); (try clear hb2); (try clear hk); (try clear hi); (try clear ho0))); try go_wp2_with (first | ((with_reducible refine gate_dst (N := 1) rfl ?_); refine box_event ?hg (N := 1) ?hd (cs := #[.int .i64 a0_0, .int .u8 a0_1, .int .u8 a0_2, .int .u8 a0_3, .int .u32 a0_4, .int .u64 a0_5, .int .i64 a0_6, .int .i64 a0_7, .int .i64 a0_8, .int .u64 a0_9, .int .u64 a0_10, .int .u64 a0_11]) (t := 42) ?hr ?_; (case hd => rfl); (case hg => rfl); (case hr => first | (go_simp; done) | (go_simp; rfl)); intro gb287 hg w8 hbox hb; have ⟨n0_, n2_⟩ := pkB (stb HB) hb hg; have n3_ := n2_; have n1_ := Aside0.mk (hbox); clear HB; have HB := n0_; have BK287 := n1_; have GW287 := n2_; have GE287 := n3_; clear n0_ n1_ n2_ n3_; clear hb hbox hg; have hcz9_0 : w8.cell? ⟨gb287, 0, none⟩ = some (.int .i64 a0_0) := (blk_cell BK287.out 0).trans rfl; have hcz9_1 : w8.cell? ⟨gb287, 1, none⟩ = some (.int .u8 a0_1) := (blk_cell BK287.out 1).trans rfl; have hcz9_2 : w8.cell? ⟨gb287, 2, none⟩ = some (.int .u8 a0_2) := (blk_cell BK287.out 2).trans rfl; have hcz9_3 : w8.cell? ⟨gb287, 3, none⟩ = some (.int .u8 a0_3) := (blk_cell BK287.out 3).trans rfl; have hcz9_4 : w8.cell? ⟨gb287, 4, none⟩ = some (.int .u32 a0_4) := (blk_cell BK287.out 4).trans rfl; have hcz9_5 : w8.cell? ⟨gb287, 5, none⟩ = some (.int .u64 a0_5) := (blk_cell BK287.out 5).trans rfl; have hcz9_6 : w8.cell? ⟨gb287, 6, none⟩ = some (.int .i64 a0_6) := (blk_cell BK287.out 6).trans rfl; have hcz9_7 : w8.cell? ⟨gb287, 7, none⟩ = some (.int .i64 a0_7) := (blk_cell BK287.out 7).trans rfl; have hcz9_8 : w8.cell? ⟨gb287, 8, none⟩ = some (.int .i64 a0_8) := (blk_cell BK287.out 8).trans rfl; have hcz9_9 : w8.cell? ⟨gb287, 9, none⟩ = some (.int .u64 a0_9) := (blk_cell BK287.out 9).trans rfl; have hcz9_10 : w8.cell? ⟨gb287, 10, none⟩ = some (.int .u64 a0_10) := (blk_cell BK287.out 10).trans rfl; have hcz9_11 : w8.cell? ⟨gb287, 11, none⟩ = some (.int .u64 a0_11) := (blk_cell BK287.out 11).trans rfl; have hfz9_0 := blk_frozen BK287.out 0; have hfz9_1 := blk_frozen BK287.out 1; have hfz9_2 := blk_frozen BK287.out 2; have hfz9_3 := blk_frozen BK287.out 3; have hfz9_4 := blk_frozen BK287.out 4; have hfz9_5 := blk_frozen BK287.out 5; have hfz9_6 := blk_frozen BK287.out 6; have hfz9_7 := blk_frozen BK287.out 7; have hfz9_8 := blk_frozen BK287.out 8; have hfz9_9 := blk_frozen BK287.out 9; have hfz9_10 := blk_frozen BK287.out 10; have hfz9_11 := blk_frozen BK287.out 11) | (go_at_call 41; (with_reducible refine (rampartref03_Is.calls a0_1 a0_2 a0_3 a0_4 a0_5 true _ A5.out).mono ?_); rintro e w10 ⟨rfl, hb⟩; have n0_ := Aside0.mk (blk_below (stp BK287) hb); have n1_ := Aside0.mk (below_step (by repeat (first | (with_reducible first | exact HB.out | apply below_alloc | apply pw_below_drewN | apply below_drew1 | refine below_set ?_ GE287.out) | exact HB.out)) hb); clear BK287; clear HB; have BK287 := n0_; have HB := n1_; clear n0_ n1_; (try clear hb); (try clear hb2); (try clear hk); (try clear hi); have hcz11_0 : w10.cell? ⟨gb287, 0, none⟩ = some (.int .i64 a0_0) := (blk_cell BK287.out 0).trans rfl; have hcz11_1 : w10.cell? ⟨gb287, 1, none⟩ = some (.int .u8 a0_1) := (blk_cell BK287.out 1).trans rfl; have hcz11_2 : w10.cell? ⟨gb287, 2, none⟩ = some (.int .u8 a0_2) := (blk_cell BK287.out 2).trans rfl; have hcz11_3 : w10.cell? ⟨gb287, 3, none⟩ = some (.int .u8 a0_3) := (blk_cell BK287.out 3).trans rfl; have hcz11_4 : w10.cell? ⟨gb287, 4, none⟩ = some (.int .u32 a0_4) := (blk_cell BK287.out 4).trans rfl; have hcz11_5 : w10.cell? ⟨gb287, 5, none⟩ = some (.int .u64 a0_5) := (blk_cell BK287.out 5).trans rfl; have hcz11_6 : w10.cell? ⟨gb287, 6, none⟩ = some (.int .i64 a0_6) := (blk_cell BK287.out 6).trans rfl; have hcz11_7 : w10.cell? ⟨gb287, 7, none⟩ = some (.int .i64 a0_7) := (blk_cell BK287.out 7).trans rfl; have hcz11_8 : w10.cell? ⟨gb287, 8, none⟩ = some (.int .i64 a0_8) := (blk_cell BK287.out 8).trans rfl; have hcz11_9 : w10.cell? ⟨gb287, 9, none⟩ = some (.int .u64 a0_9) := (blk_cell BK287.out 9).trans rfl; have hcz11_10 : w10.cell? ⟨gb287, 10, none⟩ = some (.int .u64 a0_10) := (blk_cell BK287.out 10).trans rfl; have hcz11_11 : w10.cell? ⟨gb287, 11, none⟩ = some (.int .u64 a0_11) := (blk_cell BK287.out 11).trans rfl; have hfz11_0 := blk_frozen BK287.out 0; have hfz11_1 := blk_frozen BK287.out 1; have hfz11_2 := blk_frozen BK287.out 2; have hfz11_3 := blk_frozen BK287.out 3; have hfz11_4 := blk_frozen BK287.out 4; have hfz11_5 := blk_frozen BK287.out 5; have hfz11_6 := blk_frozen BK287.out 6; have hfz11_7 := blk_frozen BK287.out 7; have hfz11_8 := blk_frozen BK287.out 8; have hfz11_9 := blk_frozen BK287.out 9; have hfz11_10 := blk_frozen BK287.out 10; have hfz11_11 := blk_frozen BK287.out 11) | (go_at_call 42; (with_reducible refine (rampartref17_Steps.calls a0_1 t289 _ A7.out).mono ?_); rintro e w12 ⟨v290, rfl, ho0, hb⟩; have n0_ := Aside0.mk (Kd.R_lower ho0 (below_size (by repeat (first | (with_reducible first | exact HB.out | apply below_alloc | apply pw_below_drewN | apply below_drew1 | refine below_set ?_ GE287.out) | exact HB.out)))); have n1_ := Aside0.mk (blk_below (stp BK287) hb); have n2_ := Aside0.mk (below_step (by repeat (first | (with_reducible first | exact HB.out | apply below_alloc | apply pw_below_drewN | apply below_drew1 | refine below_set ?_ GE287.out) | exact HB.out)) hb); clear BK287; clear HB; have HO291 := n0_; have BK287 := n1_; have HB := n2_; clear n0_ n1_ n2_; (try clear hb); (try clear hb2); (try clear hk); (try clear hi); (try clear ho0))))
   go_loopg [4] k (fun kq v4 w' => ∃ (x4_1 : Int), v4 = .int .i64 x4_1 ∧ Aside0 (rampartref17_place.l0 kq t289 x4_1 a0_0 a0_1 a0_2 a0_3 a0_4 a0_5 a0_6 a0_7 a0_8 a0_9 a0_10 a0_11 = some r) ∧ Aside0 (kq ≤ k) ∧ Aside0 (Kd.R (Kd.int .i64) 38 w' w.heap.size (fun _ => True) v290 t289) ∧ Aside0 (w'.heap[gb287]? = some (.cells #[.int .i64 a0_0, .int .u8 a0_1, .int .u8 a0_2, .int .u8 a0_3, .int .u32 a0_4, .int .u64 a0_5, .int .i64 a0_6, .int .i64 a0_7, .int .i64 a0_8, .int .u64 a0_9, .int .u64 a0_10, .int .u64 a0_11] 42 (0, 0))) ∧ Aside0 (Below w.heap.size w w'))
   case atStart => exact ⟨(0), (by first | rfl | (simp; done) | (simp [*]; done)), H', ⟨Nat.le_refl _⟩, ⟨by (with_reducible repeat (first | apply Kd.R_alloc | apply Kd.R_drewN | apply Kd.R_drew)); exact HO291.out⟩, ⟨stp BK287⟩, ⟨by repeat (first | (with_reducible first | exact HB.out | apply below_alloc | apply pw_below_drewN | apply below_drew1 | refine below_set ?_ GE287.out) | exact HB.out)⟩⟩
   case round =>
    clear H'
    try clear c2
    try clear c2b0
    try clear p2
    try clear c4
    try clear c6
    try clear hcz11_0
    try clear hcz11_1
    try clear hcz11_10
    try clear hcz11_11
    try clear hcz11_2
    try clear hcz11_3
    try clear hcz11_4
    try clear hcz11_5
    try clear hcz11_6
    try clear hcz11_7
    try clear hcz11_8
    try clear hcz11_9
    try clear hcz4_0
    try clear hcz4_1
    try clear hcz4_10
    try clear hcz4_11
    try clear hcz4_2
    try clear hcz4_3
    try clear hcz4_4
    try clear hcz4_5
    try clear hcz4_6
    try clear hcz4_7
    try clear hcz4_8
    try clear hcz4_9
    try clear hcz9_0
    try clear hcz9_1
    try clear hcz9_10
    try clear hcz9_11
    try clear hcz9_2
    try clear hcz9_3
    try clear hcz9_4
    try clear hcz9_5
    try clear hcz9_6
    try clear hcz9_7
    try clear hcz9_8
    try clear hcz9_9
    try clear hfz11_0
    try clear hfz11_1
    try clear hfz11_10
    try clear hfz11_11
    try clear hfz11_2
    try clear hfz11_3
    try clear hfz11_4
    try clear hfz11_5
    try clear hfz11_6
    try clear hfz11_7
    try clear hfz11_8
    try clear hfz11_9
    try clear hfz4_0
    try clear hfz4_1
    try clear hfz4_10
    try clear hfz4_11
    try clear hfz4_2
    try clear hfz4_3
    try clear hfz4_4
    try clear hfz4_5
    try clear hfz4_6
    try clear hfz4_7
    try clear hfz4_8
    try clear hfz4_9
    try clear hfz9_0
    try clear hfz9_1
    try clear hfz9_10
    try clear hfz9_11
    try clear hfz9_2
    try clear hfz9_3
    try clear hfz9_4
    try clear hfz9_5
    try clear hfz9_6
    try clear hfz9_7
    try clear hfz9_8
    try clear hfz9_9
    obtain ⟨x4_1, rfl, HA, HK1, HO_3, BK287, HB⟩ := hrel
    cases gk with
    | zero => exact absurd HA.out (by simp [rampartref17_place.l0])
    | succ k1 =>
     have H := HA.out
     clear HA
     simp only [rampartref17_place.l0] at H
     by_cases c13 : x4_1 < (t289.length : Int)
     ·rw [if_pos c13] at H
      have c13b0 : decide (x4_1 < (t289.length : Int)) = true := decide_eq_true c13
      clear c13
      by_cases c14 : 0 ≤ x4_1
      ·rw [if_pos c14] at H
       have c14b0 : decide (0 ≤ x4_1) = true := decide_eq_true c14
       clear c14
       by_cases c15 : (rd t289 x4_1) = a0_6
       ·rw [if_pos c15] at H
        have c15b0 : ((rd t289 x4_1) == a0_6) = true := beq_iff_eq.mpr c15
        have c15b1 : ((rd t289 x4_1) != a0_6) = false := bne_eq_false_iff_eq.mpr c15
        clear c15
        obtain rfl := Option.some.inj H
        obtain ⟨Ao16, co16, eo16⟩ := Kd.R_slice HO_3.out
        subst eo16
        have p292 : 0 ≤ (x4_1 : Int) := of_decide_eq_true (by first | (with_reducible assumption) | assumption)
        have q292 : x4_1 < (t289.length : Int) := of_decide_eq_true (by first | (with_reducible assumption) | assumption)
        obtain ⟨ad292, e292, hx292_0⟩ := Kd.at_int (Kd.R_reads' HO_3.out).2.2 x4_1 p292 q292
        cases e292
        replace p292 := eq_true p292
        replace q292 := eq_true q292
        have hcz17_0 : wr.cell? ⟨gb287, 0, none⟩ = some (.int .i64 a0_0) := (blk_cell BK287.out 0).trans rfl
        have hcz17_1 : wr.cell? ⟨gb287, 1, none⟩ = some (.int .u8 a0_1) := (blk_cell BK287.out 1).trans rfl
        have hcz17_2 : wr.cell? ⟨gb287, 2, none⟩ = some (.int .u8 a0_2) := (blk_cell BK287.out 2).trans rfl
        have hcz17_3 : wr.cell? ⟨gb287, 3, none⟩ = some (.int .u8 a0_3) := (blk_cell BK287.out 3).trans rfl
        have hcz17_4 : wr.cell? ⟨gb287, 4, none⟩ = some (.int .u32 a0_4) := (blk_cell BK287.out 4).trans rfl
        have hcz17_5 : wr.cell? ⟨gb287, 5, none⟩ = some (.int .u64 a0_5) := (blk_cell BK287.out 5).trans rfl
        have hcz17_6 : wr.cell? ⟨gb287, 6, none⟩ = some (.int .i64 a0_6) := (blk_cell BK287.out 6).trans rfl
        have hcz17_7 : wr.cell? ⟨gb287, 7, none⟩ = some (.int .i64 a0_7) := (blk_cell BK287.out 7).trans rfl
        have hcz17_8 : wr.cell? ⟨gb287, 8, none⟩ = some (.int .i64 a0_8) := (blk_cell BK287.out 8).trans rfl
        have hcz17_9 : wr.cell? ⟨gb287, 9, none⟩ = some (.int .u64 a0_9) := (blk_cell BK287.out 9).trans rfl
        have hcz17_10 : wr.cell? ⟨gb287, 10, none⟩ = some (.int .u64 a0_10) := (blk_cell BK287.out 10).trans rfl
        have hcz17_11 : wr.cell? ⟨gb287, 11, none⟩ = some (.int .u64 a0_11) := (blk_cell BK287.out 11).trans rfl
        have hfz17_0 := blk_frozen BK287.out 0
        have hfz17_1 := blk_frozen BK287.out 1
        have hfz17_2 := blk_frozen BK287.out 2
        have hfz17_3 := blk_frozen BK287.out 3
        have hfz17_4 := blk_frozen BK287.out 4
        have hfz17_5 := blk_frozen BK287.out 5
        have hfz17_6 := blk_frozen BK287.out 6
        have hfz17_7 := blk_frozen BK287.out 7
        have hfz17_8 := blk_frozen BK287.out 8
        have hfz17_9 := blk_frozen BK287.out 9
        have hfz17_10 := blk_frozen BK287.out 10
        have hfz17_11 := blk_frozen BK287.out 11
        go_wp2
        repeat (go_quiet (fail); try go_wp2)
        go_ret
        exact ⟨by first | rfl | (simp [*, errW_none, errW_some] <;> rfl), by repeat (first | (with_reducible first | exact HB.out | apply below_alloc | apply pw_below_drewN | apply below_drew1 | refine below_set ?_ GE287.out) | exact HB.out)⟩
       ·rw [if_neg c15] at H
        have c15b0 : ((rd t289 x4_1) == a0_6) = false := beq_eq_false_iff_ne.mpr c15
        have c15b1 : ((rd t289 x4_1) != a0_6) = true := bne_iff_ne.mpr c15
        have H' := Aside0.mk H
        clear H
        obtain ⟨Ao18, co18, eo18⟩ := Kd.R_slice HO_3.out
        subst eo18
        have p292 : 0 ≤ (x4_1 : Int) := of_decide_eq_true (by first | (with_reducible assumption) | assumption)
        have q292 : x4_1 < (t289.length : Int) := of_decide_eq_true (by first | (with_reducible assumption) | assumption)
        obtain ⟨ad292, e292, hx292_0⟩ := Kd.at_int (Kd.R_reads' HO_3.out).2.2 x4_1 p292 q292
        cases e292
        replace p292 := eq_true p292
        replace q292 := eq_true q292
        have hcz19_0 : wr.cell? ⟨gb287, 0, none⟩ = some (.int .i64 a0_0) := (blk_cell BK287.out 0).trans rfl
        have hcz19_1 : wr.cell? ⟨gb287, 1, none⟩ = some (.int .u8 a0_1) := (blk_cell BK287.out 1).trans rfl
        have hcz19_2 : wr.cell? ⟨gb287, 2, none⟩ = some (.int .u8 a0_2) := (blk_cell BK287.out 2).trans rfl
        have hcz19_3 : wr.cell? ⟨gb287, 3, none⟩ = some (.int .u8 a0_3) := (blk_cell BK287.out 3).trans rfl
        have hcz19_4 : wr.cell? ⟨gb287, 4, none⟩ = some (.int .u32 a0_4) := (blk_cell BK287.out 4).trans rfl
        have hcz19_5 : wr.cell? ⟨gb287, 5, none⟩ = some (.int .u64 a0_5) := (blk_cell BK287.out 5).trans rfl
        have hcz19_6 : wr.cell? ⟨gb287, 6, none⟩ = some (.int .i64 a0_6) := (blk_cell BK287.out 6).trans rfl
        have hcz19_7 : wr.cell? ⟨gb287, 7, none⟩ = some (.int .i64 a0_7) := (blk_cell BK287.out 7).trans rfl
        have hcz19_8 : wr.cell? ⟨gb287, 8, none⟩ = some (.int .i64 a0_8) := (blk_cell BK287.out 8).trans rfl
        have hcz19_9 : wr.cell? ⟨gb287, 9, none⟩ = some (.int .u64 a0_9) := (blk_cell BK287.out 9).trans rfl
        have hcz19_10 : wr.cell? ⟨gb287, 10, none⟩ = some (.int .u64 a0_10) := (blk_cell BK287.out 10).trans rfl
        have hcz19_11 : wr.cell? ⟨gb287, 11, none⟩ = some (.int .u64 a0_11) := (blk_cell BK287.out 11).trans rfl
        have hfz19_0 := blk_frozen BK287.out 0
        have hfz19_1 := blk_frozen BK287.out 1
        have hfz19_2 := blk_frozen BK287.out 2
        have hfz19_3 := blk_frozen BK287.out 3
        have hfz19_4 := blk_frozen BK287.out 4
        have hfz19_5 := blk_frozen BK287.out 5
        have hfz19_6 := blk_frozen BK287.out 6
        have hfz19_7 := blk_frozen BK287.out 7
        have hfz19_8 := blk_frozen BK287.out 8
        have hfz19_9 := blk_frozen BK287.out 9
        have hfz19_10 := blk_frozen BK287.out 10
        have hfz19_11 := blk_frozen BK287.out 11
        go_wp2
        repeat (go_quiet (fail); try go_wp2)
        go_roundg k1
        case measure => have := HK1.out; omega
        case rel => exact ⟨(wrap64 (x4_1 + 1)), (by first | rfl | (simp; done) | (simp [*]; done)), H', ⟨by have := HK1.out; omega⟩, ⟨by (with_reducible repeat (first | apply Kd.R_alloc | apply Kd.R_drewN | apply Kd.R_drew)); exact HO_3.out⟩, ⟨stp BK287⟩, ⟨by repeat (first | (with_reducible first | exact HB.out | apply below_alloc | apply pw_below_drewN | apply below_drew1 | refine below_set ?_ GE287.out) | exact HB.out)⟩⟩
      ·rw [if_neg c14] at H
       exact absurd H (by simp)
     ·rw [if_neg c13] at H
      have c13b0 : decide (x4_1 < (t289.length : Int)) = false := decide_eq_false c13
      clear c13
      obtain rfl := Option.some.inj H
      obtain ⟨Ao20, co20, eo20⟩ := Kd.R_slice HO_3.out
      subst eo20
      go_wp2
      repeat (go_quiet (fail); try go_wp2)
      go_ret
      exact ⟨by first | rfl | (simp [*, errW_none, errW_some] <;> rfl), by repeat (first | (with_reducible first | exact HB.out | apply below_alloc | apply pw_below_drewN | apply below_drew1 | refine below_set ?_ GE287.out) | exact HB.out)⟩
  ·replace c6 := Bool.eq_false_iff.mpr c6
   subst c6
   have H1 : (some (-1)) = some r := by rw [if_neg (show ¬ (false = true) by decide)] at H; exact H
   clear H
   have H := H1
   clear H1
   obtain rfl := Option.some.inj H
   go_enter Try.func46, Try.ntmps46
   go_wp2_with (first | ((with_reducible refine gate_dst (N := 1) rfl ?_); refine box_event ?hg (N := 1) ?hd (cs := #[.int .i64 a0_0, .int .u8 a0_1, .int .u8 a0_2, .int .u8 a0_3, .int .u32 a0_4, .int .u64 a0_5, .int .i64 a0_6, .int .i64 a0_7, .int .i64 a0_8, .int .u64 a0_9, .int .u64 a0_10, .int .u64 a0_11]) (t := 42) ?hr ?_; (case hd => rfl); (case hg => rfl); (case hr => first | (go_simp; done) | (go_simp; rfl)); intro gb287 hg w21 hbox hb; have ⟨n0_, n2_⟩ := pkB (stb HB) hb hg; have n3_ := n2_; have n1_ := Aside0.mk (hbox); clear HB; have HB := n0_; have BK287 := n1_; have GW287 := n2_; have GE287 := n3_; clear n0_ n1_ n2_ n3_; clear hb hbox hg; have hcz22_0 : w21.cell? ⟨gb287, 0, none⟩ = some (.int .i64 a0_0) := (blk_cell BK287.out 0).trans rfl; have hcz22_1 : w21.cell? ⟨gb287, 1, none⟩ = some (.int .u8 a0_1) := (blk_cell BK287.out 1).trans rfl; have hcz22_2 : w21.cell? ⟨gb287, 2, none⟩ = some (.int .u8 a0_2) := (blk_cell BK287.out 2).trans rfl; have hcz22_3 : w21.cell? ⟨gb287, 3, none⟩ = some (.int .u8 a0_3) := (blk_cell BK287.out 3).trans rfl; have hcz22_4 : w21.cell? ⟨gb287, 4, none⟩ = some (.int .u32 a0_4) := (blk_cell BK287.out 4).trans rfl; have hcz22_5 : w21.cell? ⟨gb287, 5, none⟩ = some (.int .u64 a0_5) := (blk_cell BK287.out 5).trans rfl; have hcz22_6 : w21.cell? ⟨gb287, 6, none⟩ = some (.int .i64 a0_6) := (blk_cell BK287.out 6).trans rfl; have hcz22_7 : w21.cell? ⟨gb287, 7, none⟩ = some (.int .i64 a0_7) := (blk_cell BK287.out 7).trans rfl; have hcz22_8 : w21.cell? ⟨gb287, 8, none⟩ = some (.int .i64 a0_8) := (blk_cell BK287.out 8).trans rfl; have hcz22_9 : w21.cell? ⟨gb287, 9, none⟩ = some (.int .u64 a0_9) := (blk_cell BK287.out 9).trans rfl; have hcz22_10 : w21.cell? ⟨gb287, 10, none⟩ = some (.int .u64 a0_10) := (blk_cell BK287.out 10).trans rfl; have hcz22_11 : w21.cell? ⟨gb287, 11, none⟩ = some (.int .u64 a0_11) := (blk_cell BK287.out 11).trans rfl; have hfz22_0 := blk_frozen BK287.out 0; have hfz22_1 := blk_frozen BK287.out 1; have hfz22_2 := blk_frozen BK287.out 2; have hfz22_3 := blk_frozen BK287.out 3; have hfz22_4 := blk_frozen BK287.out 4; have hfz22_5 := blk_frozen BK287.out 5; have hfz22_6 := blk_frozen BK287.out 6; have hfz22_7 := blk_frozen BK287.out 7; have hfz22_8 := blk_frozen BK287.out 8; have hfz22_9 := blk_frozen BK287.out 9; have hfz22_10 := blk_frozen BK287.out 10; have hfz22_11 := blk_frozen BK287.out 11) | (go_at_call 41; (with_reducible refine (rampartref03_Is.calls a0_1 a0_2 a0_3 a0_4 a0_5 false _ A5.out).mono ?_); rintro e w23 ⟨rfl, hb⟩; have n0_ := Aside0.mk (blk_below (stp BK287) hb); have n1_ := Aside0.mk (below_step (by repeat (first | (with_reducible first | exact HB.out | apply below_alloc | apply pw_below_drewN | apply below_drew1 | refine below_set ?_ GE287.out) | exact HB.out)) hb); clear BK287; clear HB; have BK287 := n0_; have HB := n1_; clear n0_ n1_; (try clear hb); (try clear hb2); (try clear hk); (try clear hi)))
   repeat (go_quiet (first | ((with_reducible refine gate_dst (N := 1) rfl ?_); refine box_event ?hg (N := 1) ?hd (cs := #[.int .i64 a0_0, .int .u8 a0_1, .int .u8 a0_2, .int .u8 a0_3, .int .u32 a0_4, .int .u64 a0_5, .int .i64 a0_6, .int .i64 a0_7, .int .i64 a0_8, .int .u64 a0_9, .int .u64 a0_10, .int .u64 a0_11]) (t := 42) ?hr ?_; (case hd => rfl); (case hg => rfl); (case hr => first | (go_simp; done) | (go_simp; rfl)); intro gb287 hg w21 hbox hb; have ⟨n0_, n2_⟩ := pkB (stb HB) hb hg; have n3_ := n2_; have n1_ := Aside0.mk (hbox); clear HB; have HB := n0_; have BK287 := n1_; have GW287 := n2_; have GE287 := n3_; clear n0_ n1_ n2_ n3_; clear hb hbox hg; have hcz22_0 : w21.cell? ⟨gb287, 0, none⟩ = some (.int .i64 a0_0) := (blk_cell BK287.out 0).trans rfl; have hcz22_1 : w21.cell? ⟨gb287, 1, none⟩ = some (.int .u8 a0_1) := (blk_cell BK287.out 1).trans rfl; have hcz22_2 : w21.cell? ⟨gb287, 2, none⟩ = some (.int .u8 a0_2) := (blk_cell BK287.out 2).trans rfl; have hcz22_3 : w21.cell? ⟨gb287, 3, none⟩ = some (.int .u8 a0_3) := (blk_cell BK287.out 3).trans rfl; have hcz22_4 : w21.cell? ⟨gb287, 4, none⟩ = some (.int .u32 a0_4) := (blk_cell BK287.out 4).trans rfl; have hcz22_5 : w21.cell? ⟨gb287, 5, none⟩ = some (.int .u64 a0_5) := (blk_cell BK287.out 5).trans rfl; have hcz22_6 : w21.cell? ⟨gb287, 6, none⟩ = some (.int .i64 a0_6) := (blk_cell BK287.out 6).trans rfl; have hcz22_7 : w21.cell? ⟨gb287, 7, none⟩ = some (.int .i64 a0_7) := (blk_cell BK287.out 7).trans rfl; have hcz22_8 : w21.cell? ⟨gb287, 8, none⟩ = some (.int .i64 a0_8) := (blk_cell BK287.out 8).trans rfl; have hcz22_9 : w21.cell? ⟨gb287, 9, none⟩ = some (.int .u64 a0_9) := (blk_cell BK287.out 9).trans rfl; have hcz22_10 : w21.cell? ⟨gb287, 10, none⟩ = some (.int .u64 a0_10) := (blk_cell BK287.out 10).trans rfl; have hcz22_11 : w21.cell? ⟨gb287, 11, none⟩ = some (.int .u64 a0_11) := (blk_cell BK287.out 11).trans rfl; have hfz22_0 := blk_frozen BK287.out 0; have hfz22_1 := blk_frozen BK287.out 1; have hfz22_2 := blk_frozen BK287.out 2; have hfz22_3 := blk_frozen BK287.out 3; have hfz22_4 := blk_frozen BK287.out 4; have hfz22_5 := blk_frozen BK287.out 5; have hfz22_6 := blk_frozen BK287.out 6; have hfz22_7 := blk_frozen BK287.out 7; have hfz22_8 := blk_frozen BK287.out 8; have hfz22_9 := blk_frozen BK287.out 9; have hfz22_10 := blk_frozen BK287.out 10; have hfz22_11 := blk_frozen BK287.out 11) | (go_at_call 41; (with_reducible refine (rampartref03_Is.calls a0_1 a0_2 a0_3 a0_4 a0_5 false _ A5.out).mono ?_); rintro e w23 ⟨rfl, hb⟩; have n0_ := Aside0.mk (blk_below (stp BK287) hb); have n1_ := Aside0.mk (below_step (by repeat (first | (with_reducible first | exact HB.out | apply below_alloc | apply pw_below_drewN | apply below_drew1 | refine below_set ?_ GE287.out) | exact HB.out)) hb); clear BK287; clear HB; have BK287 := n0_; have HB := n1_; clear n0_ n1_; (try clear hb); (try clear hb2); (try clear hk); (try clear hi))); try go_wp2_with (first | ((with_reducible refine gate_dst (N := 1) rfl ?_); refine box_event ?hg (N := 1) ?hd (cs := #[.int .i64 a0_0, .int .u8 a0_1, .int .u8 a0_2, .int .u8 a0_3, .int .u32 a0_4, .int .u64 a0_5, .int .i64 a0_6, .int .i64 a0_7, .int .i64 a0_8, .int .u64 a0_9, .int .u64 a0_10, .int .u64 a0_11]) (t := 42) ?hr ?_; (case hd => rfl); (case hg => rfl); (case hr => first | (go_simp; done) | (go_simp; rfl)); intro gb287 hg w21 hbox hb; have ⟨n0_, n2_⟩ := pkB (stb HB) hb hg; have n3_ := n2_; have n1_ := Aside0.mk (hbox); clear HB; have HB := n0_; have BK287 := n1_; have GW287 := n2_; have GE287 := n3_; clear n0_ n1_ n2_ n3_; clear hb hbox hg; have hcz22_0 : w21.cell? ⟨gb287, 0, none⟩ = some (.int .i64 a0_0) := (blk_cell BK287.out 0).trans rfl; have hcz22_1 : w21.cell? ⟨gb287, 1, none⟩ = some (.int .u8 a0_1) := (blk_cell BK287.out 1).trans rfl; have hcz22_2 : w21.cell? ⟨gb287, 2, none⟩ = some (.int .u8 a0_2) := (blk_cell BK287.out 2).trans rfl; have hcz22_3 : w21.cell? ⟨gb287, 3, none⟩ = some (.int .u8 a0_3) := (blk_cell BK287.out 3).trans rfl; have hcz22_4 : w21.cell? ⟨gb287, 4, none⟩ = some (.int .u32 a0_4) := (blk_cell BK287.out 4).trans rfl; have hcz22_5 : w21.cell? ⟨gb287, 5, none⟩ = some (.int .u64 a0_5) := (blk_cell BK287.out 5).trans rfl; have hcz22_6 : w21.cell? ⟨gb287, 6, none⟩ = some (.int .i64 a0_6) := (blk_cell BK287.out 6).trans rfl; have hcz22_7 : w21.cell? ⟨gb287, 7, none⟩ = some (.int .i64 a0_7) := (blk_cell BK287.out 7).trans rfl; have hcz22_8 : w21.cell? ⟨gb287, 8, none⟩ = some (.int .i64 a0_8) := (blk_cell BK287.out 8).trans rfl; have hcz22_9 : w21.cell? ⟨gb287, 9, none⟩ = some (.int .u64 a0_9) := (blk_cell BK287.out 9).trans rfl; have hcz22_10 : w21.cell? ⟨gb287, 10, none⟩ = some (.int .u64 a0_10) := (blk_cell BK287.out 10).trans rfl; have hcz22_11 : w21.cell? ⟨gb287, 11, none⟩ = some (.int .u64 a0_11) := (blk_cell BK287.out 11).trans rfl; have hfz22_0 := blk_frozen BK287.out 0; have hfz22_1 := blk_frozen BK287.out 1; have hfz22_2 := blk_frozen BK287.out 2; have hfz22_3 := blk_frozen BK287.out 3; have hfz22_4 := blk_frozen BK287.out 4; have hfz22_5 := blk_frozen BK287.out 5; have hfz22_6 := blk_frozen BK287.out 6; have hfz22_7 := blk_frozen BK287.out 7; have hfz22_8 := blk_frozen BK287.out 8; have hfz22_9 := blk_frozen BK287.out 9; have hfz22_10 := blk_frozen BK287.out 10; have hfz22_11 := blk_frozen BK287.out 11) | (go_at_call 41; (with_reducible refine (rampartref03_Is.calls a0_1 a0_2 a0_3 a0_4 a0_5 false _ A5.out).mono ?_); rintro e w23 ⟨rfl, hb⟩; have n0_ := Aside0.mk (blk_below (stp BK287) hb); have n1_ := Aside0.mk (below_step (by repeat (first | (with_reducible first | exact HB.out | apply below_alloc | apply pw_below_drewN | apply below_drew1 | refine below_set ?_ GE287.out) | exact HB.out)) hb); clear BK287; clear HB; have BK287 := n0_; have HB := n1_; clear n0_ n1_; (try clear hb); (try clear hb2); (try clear hk); (try clear hi))))
   go_ret
   exact ⟨by first | rfl | (simp [*, errW_none, errW_some] <;> rfl), by repeat (first | (with_reducible first | exact HB.out | apply below_alloc | apply pw_below_drewN | apply below_drew1 | refine below_set ?_ GE287.out) | exact HB.out)⟩

/-! ### rampartref17_Left: function 32 -/
def rampartref17_Left.f (k : Nat) (a0_0 : Int) (a0_1 : Int) (a0_2 : Int) (a0_3 : Int) (a0_4 : Int) (a0_5 : Int) (a0_6 : Int) (a0_7 : Int) (a0_8 : Int) (a0_9 : Int) (a0_10 : Int) (a0_11 : Int) : Option (Int) := (rampartref17_place.f k a0_0 a0_1 a0_2 a0_3 a0_4 a0_5 a0_6 a0_7 a0_8 a0_9 a0_10 a0_11).bind fun t294 => (if t294 < 0 then (some 0) else ((rampartref17_Steps.f a0_1).bind fun t295 => (some (wrap64 ((t295.length : Int) - t294)))))
theorem rampartref17_Left.mono : ∀ a0 a1 a2 a3 a4 a5 a6 a7 a8 a9 a10 a11 k, LeO (rampartref17_Left.f k a0 a1 a2 a3 a4 a5 a6 a7 a8 a9 a10 a11) (rampartref17_Left.f (k + 1) a0 a1 a2 a3 a4 a5 a6 a7 a8 a9 a10 a11) := by
 intro a0 a1 a2 a3 a4 a5 a6 a7 a8 a9 a10 a11 k
 unfold rampartref17_Left.f
 repeat' first
   | (with_reducible exact rampartref17_place.mono _ _ _ _ _ _ _ _ _ _ _ _ _)
   | (with_reducible exact LeO.refl _)
   | (with_reducible exact LeO.none _)
   | (with_reducible refine LeO.ite ?_ ?_)
   | (with_reducible refine LeO.bind ?_ (fun _ => ?_))
   | exact rampartref17_place.mono _ _ _ _ _ _ _ _ _ _ _ _ _
   | exact LeO.none _
   | refine LeO.ite ?_ ?_
   | refine LeO.bind ?_ (fun _ => ?_)
set_option maxHeartbeats 8000000 in
set_option maxRecDepth 100000 in
theorem rampartref17_Left.calls (k : Nat) (a0_0 : Int) (a0_1 : Int) (a0_2 : Int) (a0_3 : Int) (a0_4 : Int) (a0_5 : Int) (a0_6 : Int) (a0_7 : Int) (a0_8 : Int) (a0_9 : Int) (a0_10 : Int) (a0_11 : Int) (r : Int) (w : World) (h : rampartref17_Left.f k a0_0 a0_1 a0_2 a0_3 a0_4 a0_5 a0_6 a0_7 a0_8 a0_9 a0_10 a0_11 = some r) :
  Calls Try.prog 32 #[.agg #[.int .i64 a0_0, .int .u8 a0_1, .int .u8 a0_2, .int .u8 a0_3, .int .u32 a0_4, .int .u64 a0_5, .int .i64 a0_6, .int .i64 a0_7, .int .i64 a0_8, .int .u64 a0_9, .int .u64 a0_10, .int .u64 a0_11]] w fun e w' => e = .returned (.int .i64 r) ∧ Below w.heap.size w w' := by
 have hu42 := Try.underlying42
 have HB := Aside0.mk (Below.refl w.heap.size w)
 have H : ((rampartref17_place.f k a0_0 a0_1 a0_2 a0_3 a0_4 a0_5 a0_6 a0_7 a0_8 a0_9 a0_10 a0_11).bind fun t294 => (if t294 < 0 then (some 0) else ((rampartref17_Steps.f a0_1).bind fun t295 => (some (wrap64 ((t295.length : Int) - t294)))))) = some r := h
 clear h
 replace H := Option.bind_eq_some_iff.mp H
 obtain ⟨t294, A20, H⟩ := H
 replace H : (if t294 < 0 then (some 0) else ((rampartref17_Steps.f a0_1).bind fun t295 => (some (wrap64 ((t295.length : Int) - t294))))) = some r := H
 have A2 := Aside0.mk A20
 clear A20
 by_cases c3 : t294 < 0
 ·rw [if_pos c3] at H
  have c3b0 : decide (t294 < 0) = true := decide_eq_true c3
  clear c3
  obtain rfl := Option.some.inj H
  go_enter Try.func32, Try.ntmps32
  go_wp2_with (first | ((with_reducible refine gate_dst (N := 1) rfl ?_); refine box_event ?hg (N := 1) ?hd (cs := #[.int .i64 a0_0, .int .u8 a0_1, .int .u8 a0_2, .int .u8 a0_3, .int .u32 a0_4, .int .u64 a0_5, .int .i64 a0_6, .int .i64 a0_7, .int .i64 a0_8, .int .u64 a0_9, .int .u64 a0_10, .int .u64 a0_11]) (t := 42) ?hr ?_; (case hd => rfl); (case hg => rfl); (case hr => first | (go_simp; done) | (go_simp; rfl)); intro gb293 hg w4 hbox hb; have ⟨n0_, n2_⟩ := pkB (stb HB) hb hg; have n3_ := n2_; have n1_ := Aside0.mk (hbox); clear HB; have HB := n0_; have BK293 := n1_; have GW293 := n2_; have GE293 := n3_; clear n0_ n1_ n2_ n3_; clear hb hbox hg; have hcz5_0 : w4.cell? ⟨gb293, 0, none⟩ = some (.int .i64 a0_0) := (blk_cell BK293.out 0).trans rfl; have hcz5_1 : w4.cell? ⟨gb293, 1, none⟩ = some (.int .u8 a0_1) := (blk_cell BK293.out 1).trans rfl; have hcz5_2 : w4.cell? ⟨gb293, 2, none⟩ = some (.int .u8 a0_2) := (blk_cell BK293.out 2).trans rfl; have hcz5_3 : w4.cell? ⟨gb293, 3, none⟩ = some (.int .u8 a0_3) := (blk_cell BK293.out 3).trans rfl; have hcz5_4 : w4.cell? ⟨gb293, 4, none⟩ = some (.int .u32 a0_4) := (blk_cell BK293.out 4).trans rfl; have hcz5_5 : w4.cell? ⟨gb293, 5, none⟩ = some (.int .u64 a0_5) := (blk_cell BK293.out 5).trans rfl; have hcz5_6 : w4.cell? ⟨gb293, 6, none⟩ = some (.int .i64 a0_6) := (blk_cell BK293.out 6).trans rfl; have hcz5_7 : w4.cell? ⟨gb293, 7, none⟩ = some (.int .i64 a0_7) := (blk_cell BK293.out 7).trans rfl; have hcz5_8 : w4.cell? ⟨gb293, 8, none⟩ = some (.int .i64 a0_8) := (blk_cell BK293.out 8).trans rfl; have hcz5_9 : w4.cell? ⟨gb293, 9, none⟩ = some (.int .u64 a0_9) := (blk_cell BK293.out 9).trans rfl; have hcz5_10 : w4.cell? ⟨gb293, 10, none⟩ = some (.int .u64 a0_10) := (blk_cell BK293.out 10).trans rfl; have hcz5_11 : w4.cell? ⟨gb293, 11, none⟩ = some (.int .u64 a0_11) := (blk_cell BK293.out 11).trans rfl; have hfz5_0 := blk_frozen BK293.out 0; have hfz5_1 := blk_frozen BK293.out 1; have hfz5_2 := blk_frozen BK293.out 2; have hfz5_3 := blk_frozen BK293.out 3; have hfz5_4 := blk_frozen BK293.out 4; have hfz5_5 := blk_frozen BK293.out 5; have hfz5_6 := blk_frozen BK293.out 6; have hfz5_7 := blk_frozen BK293.out 7; have hfz5_8 := blk_frozen BK293.out 8; have hfz5_9 := blk_frozen BK293.out 9; have hfz5_10 := blk_frozen BK293.out 10; have hfz5_11 := blk_frozen BK293.out 11) | ((with_reducible refine gate_callee (f := 46) rfl ?_); refine goesL_ (some 5) rfl rfl Try.func46 (by kernel_rfl) rfl #[.agg #[.int .i64 a0_0, .int .u8 a0_1, .int .u8 a0_2, .int .u8 a0_3, .int .u32 a0_4, .int .u64 a0_5, .int .i64 a0_6, .int .i64 a0_7, .int .i64 a0_8, .int .u64 a0_9, .int .u64 a0_10, .int .u64 a0_11]] rfl (by (try simp only [List.map_toArray, List.map_cons, List.map_nil]); first | done | rfl | (simp only [List.length_drop, List.length_take]; rfl)) ?_; (with_reducible refine (rampartref17_place.calls k a0_0 a0_1 a0_2 a0_3 a0_4 a0_5 a0_6 a0_7 a0_8 a0_9 a0_10 a0_11 t294 _ A2.out).mono ?_); rintro e w6 ⟨rfl, hb⟩; refine ⟨_, rfl, ?_⟩; have n0_ := Aside0.mk (blk_below (stp BK293) hb); have n1_ := Aside0.mk (below_step (by repeat (first | (with_reducible first | exact HB.out | apply below_alloc | apply pw_below_drewN | apply below_drew1 | refine below_set ?_ GE293.out) | exact HB.out)) hb); clear BK293; clear HB; have BK293 := n0_; have HB := n1_; clear n0_ n1_; (try clear hb); (try clear hb2); (try clear hk); (try clear hi)))
  go_ret
  exact ⟨by first | rfl | (simp [*, errW_none, errW_some] <;> rfl), by repeat (first | (with_reducible first | exact HB.out | apply below_alloc | apply pw_below_drewN | apply below_drew1 | refine below_set ?_ GE293.out) | exact HB.out)⟩
 ·rw [if_neg c3] at H
  have c3b0 : decide (t294 < 0) = false := decide_eq_false c3
  clear c3
  replace H := Option.bind_eq_some_iff.mp H
  obtain ⟨t295, A70, H⟩ := H
  replace H : (some (wrap64 ((t295.length : Int) - t294))) = some r := H
  have A7 := Aside0.mk A70
  clear A70
  obtain rfl := Option.some.inj H
  go_enter Try.func32, Try.ntmps32
  go_wp2_with (first | ((with_reducible refine gate_dst (N := 1) rfl ?_); refine box_event ?hg (N := 1) ?hd (cs := #[.int .i64 a0_0, .int .u8 a0_1, .int .u8 a0_2, .int .u8 a0_3, .int .u32 a0_4, .int .u64 a0_5, .int .i64 a0_6, .int .i64 a0_7, .int .i64 a0_8, .int .u64 a0_9, .int .u64 a0_10, .int .u64 a0_11]) (t := 42) ?hr ?_; (case hd => rfl); (case hg => rfl); (case hr => first | (go_simp; done) | (go_simp; rfl)); intro gb293 hg w8 hbox hb; have ⟨n0_, n2_⟩ := pkB (stb HB) hb hg; have n3_ := n2_; have n1_ := Aside0.mk (hbox); clear HB; have HB := n0_; have BK293 := n1_; have GW293 := n2_; have GE293 := n3_; clear n0_ n1_ n2_ n3_; clear hb hbox hg; have hcz9_0 : w8.cell? ⟨gb293, 0, none⟩ = some (.int .i64 a0_0) := (blk_cell BK293.out 0).trans rfl; have hcz9_1 : w8.cell? ⟨gb293, 1, none⟩ = some (.int .u8 a0_1) := (blk_cell BK293.out 1).trans rfl; have hcz9_2 : w8.cell? ⟨gb293, 2, none⟩ = some (.int .u8 a0_2) := (blk_cell BK293.out 2).trans rfl; have hcz9_3 : w8.cell? ⟨gb293, 3, none⟩ = some (.int .u8 a0_3) := (blk_cell BK293.out 3).trans rfl; have hcz9_4 : w8.cell? ⟨gb293, 4, none⟩ = some (.int .u32 a0_4) := (blk_cell BK293.out 4).trans rfl; have hcz9_5 : w8.cell? ⟨gb293, 5, none⟩ = some (.int .u64 a0_5) := (blk_cell BK293.out 5).trans rfl; have hcz9_6 : w8.cell? ⟨gb293, 6, none⟩ = some (.int .i64 a0_6) := (blk_cell BK293.out 6).trans rfl; have hcz9_7 : w8.cell? ⟨gb293, 7, none⟩ = some (.int .i64 a0_7) := (blk_cell BK293.out 7).trans rfl; have hcz9_8 : w8.cell? ⟨gb293, 8, none⟩ = some (.int .i64 a0_8) := (blk_cell BK293.out 8).trans rfl; have hcz9_9 : w8.cell? ⟨gb293, 9, none⟩ = some (.int .u64 a0_9) := (blk_cell BK293.out 9).trans rfl; have hcz9_10 : w8.cell? ⟨gb293, 10, none⟩ = some (.int .u64 a0_10) := (blk_cell BK293.out 10).trans rfl; have hcz9_11 : w8.cell? ⟨gb293, 11, none⟩ = some (.int .u64 a0_11) := (blk_cell BK293.out 11).trans rfl; have hfz9_0 := blk_frozen BK293.out 0; have hfz9_1 := blk_frozen BK293.out 1; have hfz9_2 := blk_frozen BK293.out 2; have hfz9_3 := blk_frozen BK293.out 3; have hfz9_4 := blk_frozen BK293.out 4; have hfz9_5 := blk_frozen BK293.out 5; have hfz9_6 := blk_frozen BK293.out 6; have hfz9_7 := blk_frozen BK293.out 7; have hfz9_8 := blk_frozen BK293.out 8; have hfz9_9 := blk_frozen BK293.out 9; have hfz9_10 := blk_frozen BK293.out 10; have hfz9_11 := blk_frozen BK293.out 11) | ((with_reducible refine gate_callee (f := 46) rfl ?_); refine goesL_ (some 5) rfl rfl Try.func46 (by kernel_rfl) rfl #[.agg #[.int .i64 a0_0, .int .u8 a0_1, .int .u8 a0_2, .int .u8 a0_3, .int .u32 a0_4, .int .u64 a0_5, .int .i64 a0_6, .int .i64 a0_7, .int .i64 a0_8, .int .u64 a0_9, .int .u64 a0_10, .int .u64 a0_11]] rfl (by (try simp only [List.map_toArray, List.map_cons, List.map_nil]); first | done | rfl | (simp only [List.length_drop, List.length_take]; rfl)) ?_; (with_reducible refine (rampartref17_place.calls k a0_0 a0_1 a0_2 a0_3 a0_4 a0_5 a0_6 a0_7 a0_8 a0_9 a0_10 a0_11 t294 _ A2.out).mono ?_); rintro e w10 ⟨rfl, hb⟩; refine ⟨_, rfl, ?_⟩; have n0_ := Aside0.mk (blk_below (stp BK293) hb); have n1_ := Aside0.mk (below_step (by repeat (first | (with_reducible first | exact HB.out | apply below_alloc | apply pw_below_drewN | apply below_drew1 | refine below_set ?_ GE293.out) | exact HB.out)) hb); clear BK293; clear HB; have BK293 := n0_; have HB := n1_; clear n0_ n1_; (try clear hb); (try clear hb2); (try clear hk); (try clear hi); have hcz11_0 : w10.cell? ⟨gb293, 0, none⟩ = some (.int .i64 a0_0) := (blk_cell BK293.out 0).trans rfl; have hcz11_1 : w10.cell? ⟨gb293, 1, none⟩ = some (.int .u8 a0_1) := (blk_cell BK293.out 1).trans rfl; have hcz11_2 : w10.cell? ⟨gb293, 2, none⟩ = some (.int .u8 a0_2) := (blk_cell BK293.out 2).trans rfl; have hcz11_3 : w10.cell? ⟨gb293, 3, none⟩ = some (.int .u8 a0_3) := (blk_cell BK293.out 3).trans rfl; have hcz11_4 : w10.cell? ⟨gb293, 4, none⟩ = some (.int .u32 a0_4) := (blk_cell BK293.out 4).trans rfl; have hcz11_5 : w10.cell? ⟨gb293, 5, none⟩ = some (.int .u64 a0_5) := (blk_cell BK293.out 5).trans rfl; have hcz11_6 : w10.cell? ⟨gb293, 6, none⟩ = some (.int .i64 a0_6) := (blk_cell BK293.out 6).trans rfl; have hcz11_7 : w10.cell? ⟨gb293, 7, none⟩ = some (.int .i64 a0_7) := (blk_cell BK293.out 7).trans rfl; have hcz11_8 : w10.cell? ⟨gb293, 8, none⟩ = some (.int .i64 a0_8) := (blk_cell BK293.out 8).trans rfl; have hcz11_9 : w10.cell? ⟨gb293, 9, none⟩ = some (.int .u64 a0_9) := (blk_cell BK293.out 9).trans rfl; have hcz11_10 : w10.cell? ⟨gb293, 10, none⟩ = some (.int .u64 a0_10) := (blk_cell BK293.out 10).trans rfl; have hcz11_11 : w10.cell? ⟨gb293, 11, none⟩ = some (.int .u64 a0_11) := (blk_cell BK293.out 11).trans rfl; have hfz11_0 := blk_frozen BK293.out 0; have hfz11_1 := blk_frozen BK293.out 1; have hfz11_2 := blk_frozen BK293.out 2; have hfz11_3 := blk_frozen BK293.out 3; have hfz11_4 := blk_frozen BK293.out 4; have hfz11_5 := blk_frozen BK293.out 5; have hfz11_6 := blk_frozen BK293.out 6; have hfz11_7 := blk_frozen BK293.out 7; have hfz11_8 := blk_frozen BK293.out 8; have hfz11_9 := blk_frozen BK293.out 9; have hfz11_10 := blk_frozen BK293.out 10; have hfz11_11 := blk_frozen BK293.out 11) | ((with_reducible refine gate_callee (f := 42) rfl ?_); refine goesL_ (some 11) rfl rfl Try.func42 (by kernel_rfl) rfl #[.int .u8 a0_1] rfl (by (try simp only [List.map_toArray, List.map_cons, List.map_nil]); first | done | rfl | (simp only [List.length_drop, List.length_take]; rfl)) ?_; (with_reducible refine (rampartref17_Steps.calls a0_1 t295 _ A7.out).mono ?_); rintro e w12 ⟨v296, rfl, ho0, hb⟩; refine ⟨_, rfl, ?_⟩; have n0_ := Aside0.mk (Kd.R_lower ho0 (below_size (by repeat (first | (with_reducible first | exact HB.out | apply below_alloc | apply pw_below_drewN | apply below_drew1 | refine below_set ?_ GE293.out) | exact HB.out)))); have n1_ := Aside0.mk (blk_below (stp BK293) hb); have n2_ := Aside0.mk (below_step (by repeat (first | (with_reducible first | exact HB.out | apply below_alloc | apply pw_below_drewN | apply below_drew1 | refine below_set ?_ GE293.out) | exact HB.out)) hb); clear BK293; clear HB; have HO297 := n0_; have BK293 := n1_; have HB := n2_; clear n0_ n1_ n2_; (try clear hb); (try clear hb2); (try clear hk); (try clear hi); (try clear ho0); obtain ⟨Ao13, co13, eo13⟩ := Kd.R_slice HO297.out; subst eo13))
  go_ret
  exact ⟨by first | rfl | (simp [*, errW_none, errW_some] <;> rfl), by repeat (first | (with_reducible first | exact HB.out | apply below_alloc | apply pw_below_drewN | apply below_drew1 | refine below_set ?_ GE293.out) | exact HB.out)⟩

end Go.Proofs.Ytkkgnmfahhkajaa.Q
