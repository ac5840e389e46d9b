-- Printed by a program of this session (wip/tools: the kit's printer, with functions proved by hand let in).
import Derived.Test.YtkkgnmfahhkajaaQx0
import Derived.Test.YtkkgnmfahhkajaaQx10
import Derived.Test.YtkkgnmfahhkajaaQx11
namespace Go.Proofs.Ytkkgnmfahhkajaa.Q
open Go.RowKit Go.Proofs.YtkkgnmfahhkajaaW.PrintWords Go.Proofs.YtkkgnmfahhkajaaW.PrintLast Go.Proofs.YtkkgnmfahhkajaaW.PrintMore
attribute [local go_sem] max2_int min2_int max_two min_two max_three min_three max_four min_four   -- for this text's walks alone
set_option linter.unusedVariables false
set_option linter.unusedSimpArgs false

/-! ### rampartref18_Add: function 9 -/
def rampartref18_Add.f (k : Nat) (a0_0 : Int) (a0_1 : Int) (l0_2 : List (S42)) (a1_0 : Int) (a1_1 : Int) (a1_2 : Int) (a1_3 : Int) (a1_4 : Int) : Option (Int × Int × (List (S42)) × Int × Int) := (rampartref18_Check.f k a0_0 a0_1 l0_2).bind fun t324 => (if t324 = 0 then ((rampartref18_Full.f k a0_0 a0_1 l0_2).bind fun t325 => (if t325 = true then (some (0, 0, ([] : List (S42)), 0, 181)) else (if a0_1 = 1099511627776 then (some (0, 0, ([] : List (S42)), 0, 3)) else ((rampartref17_New.f a0_1 a1_0 a1_1 a1_2 a1_3 a1_4).bind fun bt326 => (if bt326.2.2.2.2.2.2.2.2.2.2.2.2 = 0 then ((some (([] : List (S42)) : List (S42))).bind fun y340 => (if y340.length + l0_2.length < 1954687338268 then ((some (y340 ++ l0_2 : List (S42))).bind fun y343 => ((some (([(⟨bt326.1, (⟨bt326.2.1, bt326.2.2.1, bt326.2.2.2.1, bt326.2.2.2.2.1, bt326.2.2.2.2.2.1⟩ : S29), bt326.2.2.2.2.2.2.1, bt326.2.2.2.2.2.2.2.1, bt326.2.2.2.2.2.2.2.2.1, (⟨bt326.2.2.2.2.2.2.2.2.2.1, bt326.2.2.2.2.2.2.2.2.2.2.1⟩ : S40), bt326.2.2.2.2.2.2.2.2.2.2.2.1⟩ : S42)] : List (S42)) : List (S42))).bind fun y346 => (if y343.length + y346.length < 1954687338268 then (some (a0_0, wrap64 (a0_1 + 1), (y343 ++ y346), a0_1, 0)) else (none)))) else (none))) else (some (0, 0, ([] : List (S42)), 0, bt326.2.2.2.2.2.2.2.2.2.2.2.2))))))) else (some (0, 0, ([] : List (S42)), 0, 180)))
theorem rampartref18_Add.mono : ∀ a0 a1 a2 a3 a4 a5 a6 a7 k, LeO (rampartref18_Add.f k a0 a1 a2 a3 a4 a5 a6 a7) (rampartref18_Add.f (k + 1) a0 a1 a2 a3 a4 a5 a6 a7) := by
 intro a0 a1 a2 a3 a4 a5 a6 a7 k
 unfold rampartref18_Add.f
 repeat' first
   | (with_reducible exact rampartref18_Check.mono _ _ _ _)
   | (with_reducible exact rampartref18_Full.mono _ _ _ _)
   | (with_reducible exact LeO.refl _)
   | (with_reducible exact LeO.none _)
   | (with_reducible refine LeO.ite ?_ ?_)
   | (with_reducible refine LeO.bind ?_ (fun _ => ?_))
   | exact rampartref18_Check.mono _ _ _ _
   | exact rampartref18_Full.mono _ _ _ _
   | exact LeO.none _
   | refine LeO.ite ?_ ?_
   | refine LeO.bind ?_ (fun _ => ?_)
def rampartref18_Add.T10 : Bool × List (List Nat × List Nat) := (true, [([], []), ([0], [0]), ([], []), ([2], [2]), ([3], [3]), ([], []), ([], []), ([6], [6]), ([5, 7], [5, 7]), ([], []), ([9], [9]), ([8, 10, 8], [8, 10]), ([1, 4, 11], [1, 4, 11]), ([], []), ([13], [13]), ([12, 11, 0, 1, 2, 3, 4, 5, 6, 7, 8, 9, 10, 11, 12], [12]), ([14, 15, 0, 1, 2, 3, 4, 5, 6, 7, 8, 9, 10, 11, 12, 13, 14, 15], [14]), ([16, 0, 1, 2, 3, 4, 5, 6, 7, 8, 9, 10, 11, 12, 13, 14, 15, 16], [])])
def rampartref18_Add.B10 : List Nat := [0, 1, 0, 4, 12, 0, 0, 64, 224, 0, 512, 2016, 4095, 0, 8192, 8191, 65535, 131071]
theorem rampartref18_Add.tab10 : rtab .any (opsOf Try.f9 10) = rampartref18_Add.T10 := by kernel_rfl
theorem rampartref18_Add.bits10 : waitsOk rampartref18_Add.T10.2 rampartref18_Add.B10 = true := by kernel_rfl
set_option maxHeartbeats 8000000 in
set_option maxRecDepth 100000 in
theorem rampartref18_Add.calls (k : Nat) (a0_0 : Int) (a0_1 : Int) (A0_2 : Option Addr) (c0_2 : Nat) (l0_2 : List (S42)) (a1_0 : Int) (a1_1 : Int) (a1_2 : Int) (a1_3 : Int) (a1_4 : Int) (r1 : Int) (r2 : Int) (r3 : List (S42)) (r4 : Int) (r5 : Int) (w : World) (hr0_2 : Kd.C k42 w A0_2 l0_2.length l0_2) (hc0_2 : l0_2.length ≤ c0_2) (h : rampartref18_Add.f k a0_0 a0_1 l0_2 a1_0 a1_1 a1_2 a1_3 a1_4 = some (r1, r2, r3, r4, r5)) :
  Calls Try.prog 9 #[.agg #[.int .i64 a0_0, .int .i64 a0_1, .slice A0_2 l0_2.length c0_2], .agg #[.int .u8 a1_0, .int .u8 a1_1, .int .u8 a1_2, .int .u32 a1_3, .int .u64 a1_4]] w fun e w' => ∃ v2_ : Value, e = .returned (.tuple #[.agg #[.int .i64 r1, .int .i64 r2, v2_], .int .i64 r4, .int .i64 r5]) ∧ Kd.R k42 42 w' w.heap.size (fun _ => True) v2_ r3 ∧ Below w.heap.size w w' := by
 have hu24 := Try.underlying24
 have hu29 := Try.underlying29
 have hu42 := Try.underlying42
 have HR0_2 := Aside0.mk hr0_2
 have HC0_2 := Aside0.mk hc0_2
 clear hr0_2 hc0_2
 have HB := Aside0.mk (Below.refl w.heap.size w)
 have H : ((rampartref18_Check.f k a0_0 a0_1 l0_2).bind fun t324 => (if t324 = 0 then ((rampartref18_Full.f k a0_0 a0_1 l0_2).bind fun t325 => (if t325 = true then (some (0, 0, ([] : List (S42)), 0, 181)) else (if a0_1 = 1099511627776 then (some (0, 0, ([] : List (S42)), 0, 3)) else ((rampartref17_New.f a0_1 a1_0 a1_1 a1_2 a1_3 a1_4).bind fun bt326 => (if bt326.2.2.2.2.2.2.2.2.2.2.2.2 = 0 then ((some (([] : List (S42)) : List (S42))).bind fun y340 => (if y340.length + l0_2.length < 1954687338268 then ((some (y340 ++ l0_2 : List (S42))).bind fun y343 => ((some (([(⟨bt326.1, (⟨bt326.2.1, bt326.2.2.1, bt326.2.2.2.1, bt326.2.2.2.2.1, bt326.2.2.2.2.2.1⟩ : S29), bt326.2.2.2.2.2.2.1, bt326.2.2.2.2.2.2.2.1, bt326.2.2.2.2.2.2.2.2.1, (⟨bt326.2.2.2.2.2.2.2.2.2.1, bt326.2.2.2.2.2.2.2.2.2.2.1⟩ : S40), bt326.2.2.2.2.2.2.2.2.2.2.2.1⟩ : S42)] : List (S42)) : List (S42))).bind fun y346 => (if y343.length + y346.length < 1954687338268 then (some (a0_0, wrap64 (a0_1 + 1), (y343 ++ y346), a0_1, 0)) else (none)))) else (none))) else (some (0, 0, ([] : List (S42)), 0, bt326.2.2.2.2.2.2.2.2.2.2.2.2))))))) else (some (0, 0, ([] : List (S42)), 0, 180)))) = some (r1, r2, r3, r4, r5) := h
 clear h
 replace H := Option.bind_eq_some_iff.mp H
 obtain ⟨t324, A30, H⟩ := H
 replace H : (if t324 = 0 then ((rampartref18_Full.f k a0_0 a0_1 l0_2).bind fun t325 => (if t325 = true then (some (0, 0, ([] : List (S42)), 0, 181)) else (if a0_1 = 1099511627776 then (some (0, 0, ([] : List (S42)), 0, 3)) else ((rampartref17_New.f a0_1 a1_0 a1_1 a1_2 a1_3 a1_4).bind fun bt326 => (if bt326.2.2.2.2.2.2.2.2.2.2.2.2 = 0 then ((some (([] : List (S42)) : List (S42))).bind fun y340 => (if y340.length + l0_2.length < 1954687338268 then ((some (y340 ++ l0_2 : List (S42))).bind fun y343 => ((some (([(⟨bt326.1, (⟨bt326.2.1, bt326.2.2.1, bt326.2.2.2.1, bt326.2.2.2.2.1, bt326.2.2.2.2.2.1⟩ : S29), bt326.2.2.2.2.2.2.1, bt326.2.2.2.2.2.2.2.1, bt326.2.2.2.2.2.2.2.2.1, (⟨bt326.2.2.2.2.2.2.2.2.2.1, bt326.2.2.2.2.2.2.2.2.2.2.1⟩ : S40), bt326.2.2.2.2.2.2.2.2.2.2.2.1⟩ : S42)] : List (S42)) : List (S42))).bind fun y346 => (if y343.length + y346.length < 1954687338268 then (some (a0_0, wrap64 (a0_1 + 1), (y343 ++ y346), a0_1, 0)) else (none)))) else (none))) else (some (0, 0, ([] : List (S42)), 0, bt326.2.2.2.2.2.2.2.2.2.2.2.2))))))) else (some (0, 0, ([] : List (S42)), 0, 180))) = some (r1, r2, r3, r4, r5) := H
 have A3 := Aside0.mk A30
 clear A30
 by_cases c4 : t324 = 0
 ·rw [if_pos c4] at H
  have c4b0 : (t324 == 0) = true := beq_iff_eq.mpr c4
  have c4b1 : (t324 != 0) = false := bne_eq_false_iff_eq.mpr c4
  clear c4
  replace H := Option.bind_eq_some_iff.mp H
  obtain ⟨t325, A50, H⟩ := H
  replace H : (if t325 = true then (some (0, 0, ([] : List (S42)), 0, 181)) else (if a0_1 = 1099511627776 then (some (0, 0, ([] : List (S42)), 0, 3)) else ((rampartref17_New.f a0_1 a1_0 a1_1 a1_2 a1_3 a1_4).bind fun bt326 => (if bt326.2.2.2.2.2.2.2.2.2.2.2.2 = 0 then ((some (([] : List (S42)) : List (S42))).bind fun y340 => (if y340.length + l0_2.length < 1954687338268 then ((some (y340 ++ l0_2 : List (S42))).bind fun y343 => ((some (([(⟨bt326.1, (⟨bt326.2.1, bt326.2.2.1, bt326.2.2.2.1, bt326.2.2.2.2.1, bt326.2.2.2.2.2.1⟩ : S29), bt326.2.2.2.2.2.2.1, bt326.2.2.2.2.2.2.2.1, bt326.2.2.2.2.2.2.2.2.1, (⟨bt326.2.2.2.2.2.2.2.2.2.1, bt326.2.2.2.2.2.2.2.2.2.2.1⟩ : S40), bt326.2.2.2.2.2.2.2.2.2.2.2.1⟩ : S42)] : List (S42)) : List (S42))).bind fun y346 => (if y343.length + y346.length < 1954687338268 then (some (a0_0, wrap64 (a0_1 + 1), (y343 ++ y346), a0_1, 0)) else (none)))) else (none))) else (some (0, 0, ([] : List (S42)), 0, bt326.2.2.2.2.2.2.2.2.2.2.2.2)))))) = some (r1, r2, r3, r4, r5) := H
  have A5 := Aside0.mk A50
  clear A50
  by_cases c6 : t325 = true
  ·subst c6
   have H1 : (some (0, 0, ([] : List (S42)), 0, 181)) = some (r1, r2, r3, r4, r5) := by rw [if_pos rfl] at H; exact H
   clear H
   have H := H1
   clear H1
   simp only [Option.some.injEq, Prod.mk.injEq] at H
   obtain ⟨rfl, rfl, rfl, rfl, rfl⟩ := H
   go_enter Try.func9, Try.ntmps9
   go_wp2_with (first | ((with_reducible refine gate_dst (N := 2) rfl ?_); refine box_event ?hg (N := 2) ?hd (cs := #[.int .i64 a0_0, .int .i64 a0_1, .slice A0_2 l0_2.length c0_2]) (t := 24) ?hr ?_; (case hd => rfl); (case hg => rfl); (case hr => first | (go_simp; done) | (go_simp; rfl)); intro gb321 hg w7 hbox hb; have ⟨n0_, n2_⟩ := pkB (stb HB) hb hg; have n3_ := n2_; have n1_ := Aside0.mk (hbox); clear HB; have HB := n0_; have BK321 := n1_; have GW321 := n2_; have GE321 := n3_; clear n0_ n1_ n2_ n3_; clear hb hbox hg) | ((with_reducible refine gate_dst (N := 3) rfl ?_); refine box_event ?hg (N := 3) ?hd (cs := #[.int .u8 a1_0, .int .u8 a1_1, .int .u8 a1_2, .int .u32 a1_3, .int .u64 a1_4]) (t := 29) ?hr ?_; (case hd => rfl); (case hg => rfl); (case hr => first | (go_simp; done) | (go_simp; rfl)); intro gb322 hg w8 hbox hb; have ⟨n0_, n5_, n6_⟩ := pkK (stp BK321) hb hg; have ⟨n1_, n3_⟩ := pkB (w := w) (by repeat (first | (with_reducible first | exact HB.out | apply below_alloc | apply pw_below_drewN | apply below_drew1 | refine below_set ?_ GE321.out) | exact HB.out)) hb hg; have n4_ := n3_; have n2_ := Aside0.mk (hbox); clear BK321; clear HB; have BK321 := n0_; have HB := n1_; have BK322 := n2_; have GW322 := n3_; have GE322 := n4_; have NB321_322 := n5_; have NB322_321 := n6_; clear n0_ n1_ n2_ n3_ n4_ n5_ n6_; clear hb hbox hg) | ((with_reducible refine gate_dst (N := 4) rfl ?_); refine box_event ?hg (N := 4) ?hd (cs := #[.int .i64 0, .int .i64 0, .slice none 0 0]) (t := 24) ?hr ?_; (case hd => rfl); (case hg => rfl); (case hr => first | (go_simp; done) | (go_simp; rfl)); intro gb323 hg w9 hbox hb; have ⟨n0_, n6_, n7_⟩ := pkK (stp BK321) hb hg; have ⟨n1_, n8_, n9_⟩ := pkK (stp BK322) hb hg; have ⟨n2_, n4_⟩ := pkB (w := w) (by repeat (first | (with_reducible first | exact HB.out | apply below_alloc | apply pw_below_drewN | apply below_drew1 | refine below_set ?_ GE321.out | refine below_set ?_ GE322.out) | exact HB.out)) hb hg; have n5_ := n4_; have n3_ := Aside0.mk (hbox); clear BK321; clear BK322; clear HB; have BK321 := n0_; have BK322 := n1_; have HB := n2_; have BK323 := n3_; have GW323 := n4_; have GE323 := n5_; have NB321_323 := n6_; have NB323_321 := n7_; have NB322_323 := n8_; have NB323_322 := n9_; clear n0_ n1_ n2_ n3_ n4_ n5_ n6_ n7_ n8_ n9_; clear hb hbox hg; have hnb10 := NB321_322.out; have hnc10 := NB322_321.out; have hnb11 := NB321_323.out; have hnc11 := NB323_321.out; have hcz12_0 : w9.cell? ⟨gb321, 0, none⟩ = some (.int .i64 a0_0) := (blk_cell BK321.out 0).trans rfl; have hcz12_1 : w9.cell? ⟨gb321, 1, none⟩ = some (.int .i64 a0_1) := (blk_cell BK321.out 1).trans rfl; have hcz12_2 : w9.cell? ⟨gb321, 2, none⟩ = some (.slice A0_2 l0_2.length c0_2) := (blk_cell BK321.out 2).trans rfl; have hfz12_0 := blk_frozen BK321.out 0; have hfz12_1 := blk_frozen BK321.out 1; have hfz12_2 := blk_frozen BK321.out 2) | ((with_reducible refine gate_callee (f := 21) rfl ?_); refine goesL_ (some 10) rfl rfl Try.func21 (by kernel_rfl) rfl #[.agg #[.int .i64 a0_0, .int .i64 a0_1, .slice A0_2 l0_2.length c0_2]] rfl (by (try simp only [List.map_toArray, List.map_cons, List.map_nil]); first | done | rfl | (simp only [List.length_drop, List.length_take]; rfl)) ?_; (with_reducible refine (rampartref18_Check.calls k a0_0 a0_1 _ _ l0_2 t324 _ ?side1 ?side2 A3.out).mono ?_); (case side1 => repeat (first | exact (Kd.C_below HR0_2.out HB.out) | (with_reducible refine Kd.C_alloc ?_ _) | (with_reducible refine Kd.C_drewN ?_ _) | (with_reducible refine Kd.C_drew ?_))); (case side2 => exact HC0_2.out); rintro e w13 ⟨rfl, hb⟩; refine ⟨_, rfl, ?_⟩; have n0_ := Aside0.mk (blk_below (stp BK321) hb); have n1_ := Aside0.mk (blk_below (stp BK322) hb); have n2_ := Aside0.mk (blk_below (stp BK323) hb); have n3_ := Aside0.mk (below_step (by repeat (first | (with_reducible first | exact HB.out | apply below_alloc | apply pw_below_drewN | apply below_drew1 | refine below_set ?_ GE321.out | refine below_set ?_ GE322.out | refine below_set ?_ GE323.out) | exact HB.out)) hb); clear BK321; clear BK322; clear BK323; clear HB; have BK321 := n0_; have BK322 := n1_; have BK323 := n2_; have HB := n3_; clear n0_ n1_ n2_ n3_; (try clear hb); (try clear hb2); (try clear hk); (try clear hi); have hcz14_0 : w13.cell? ⟨gb321, 0, none⟩ = some (.int .i64 a0_0) := (blk_cell BK321.out 0).trans rfl; have hcz14_1 : w13.cell? ⟨gb321, 1, none⟩ = some (.int .i64 a0_1) := (blk_cell BK321.out 1).trans rfl; have hcz14_2 : w13.cell? ⟨gb321, 2, none⟩ = some (.slice A0_2 l0_2.length c0_2) := (blk_cell BK321.out 2).trans rfl; have hfz14_0 := blk_frozen BK321.out 0; have hfz14_1 := blk_frozen BK321.out 1; have hfz14_2 := blk_frozen BK321.out 2) | ((with_reducible refine gate_callee (f := 12) rfl ?_); refine goesL_ (some 14) rfl rfl Try.func12 (by kernel_rfl) rfl #[.agg #[.int .i64 a0_0, .int .i64 a0_1, .slice A0_2 l0_2.length c0_2]] rfl (by (try simp only [List.map_toArray, List.map_cons, List.map_nil]); first | done | rfl | (simp only [List.length_drop, List.length_take]; rfl)) ?_; (with_reducible refine (rampartref18_Full.calls k a0_0 a0_1 _ _ l0_2 true _ ?side1 ?side2 A5.out).mono ?_); (case side1 => repeat (first | exact (Kd.C_below HR0_2.out HB.out) | (with_reducible refine Kd.C_alloc ?_ _) | (with_reducible refine Kd.C_drewN ?_ _) | (with_reducible refine Kd.C_drew ?_))); (case side2 => exact HC0_2.out); rintro e w15 ⟨rfl, hb⟩; refine ⟨_, rfl, ?_⟩; have n0_ := Aside0.mk (blk_below (stp BK321) hb); have n1_ := Aside0.mk (blk_below (stp BK322) hb); have n2_ := Aside0.mk (blk_below (stp BK323) hb); have n3_ := Aside0.mk (below_step (by repeat (first | (with_reducible first | exact HB.out | apply below_alloc | apply pw_below_drewN | apply below_drew1 | refine below_set ?_ GE321.out | refine below_set ?_ GE322.out | refine below_set ?_ GE323.out) | exact HB.out)) hb); clear BK321; clear BK322; clear BK323; clear HB; have BK321 := n0_; have BK322 := n1_; have BK323 := n2_; have HB := n3_; clear n0_ n1_ n2_ n3_; (try clear hb); (try clear hb2); (try clear hk); (try clear hi); have hnb16 := NB323_322.out; have hnc16 := NB322_323.out; have hcz17_0 : w15.cell? ⟨gb323, 0, none⟩ = some (.int .i64 0) := (blk_cell BK323.out 0).trans rfl; have hcz17_1 : w15.cell? ⟨gb323, 1, none⟩ = some (.int .i64 0) := (blk_cell BK323.out 1).trans rfl; have hcz17_2 : w15.cell? ⟨gb323, 2, none⟩ = some (.slice none 0 0) := (blk_cell BK323.out 2).trans rfl; have hfz17_0 := blk_frozen BK323.out 0; have hfz17_1 := blk_frozen BK323.out 1; have hfz17_2 := blk_frozen BK323.out 2))
   refine bodyPost_ret (results_ctt rfl _ _ gb323 24 #[.int .i64 0, .int .i64 0, .slice none 0 0] (0, 0) _ rfl (by refine stq ?_; refine blk_put (cs := #[.int .i64 0, .int .i64 0, .slice none 0 0]) ?_ 2 _ rfl; refine stq ?_; refine blk_put (cs := #[.int .i64 0, .int .i64 0, .slice none 0 0]) ?_ 1 _ rfl; refine stq ?_; refine blk_put (cs := #[.int .i64 0, .int .i64 0, .slice none 0 0]) ?_ 0 _ rfl; refine stq ?_; exact BK323.out) Try.underlying24 rfl (by kernel_rfl)) rfl ?_
   exact ⟨_, by first | rfl | (simp [errW_none, errW_some] <;> rfl) | (simp [*, errW_none, errW_some] <;> rfl), by first | exact Kd.R_nil _ _ _ _ _ | exact Kd.N_nil _ _ _ _ _ | exact Kd.V_nil _ _ _ _ _ | exact Kd.Q_nil _ _ _ _ _ | exact Kd.S_nil _ _ _ _ _, by repeat (first | (with_reducible first | exact HB.out | apply below_alloc | apply pw_below_drewN | apply below_drew1 | refine below_set ?_ GE321.out | refine below_set ?_ GE322.out | refine below_set ?_ GE323.out) | exact HB.out)⟩
  ·replace c6 := Bool.eq_false_iff.mpr c6
   subst c6
   have H1 : (if a0_1 = 1099511627776 then (some (0, 0, ([] : List (S42)), 0, 3)) else ((rampartref17_New.f a0_1 a1_0 a1_1 a1_2 a1_3 a1_4).bind fun bt326 => (if bt326.2.2.2.2.2.2.2.2.2.2.2.2 = 0 then ((some (([] : List (S42)) : List (S42))).bind fun y340 => (if y340.length + l0_2.length < 1954687338268 then ((some (y340 ++ l0_2 : List (S42))).bind fun y343 => ((some (([(⟨bt326.1, (⟨bt326.2.1, bt326.2.2.1, bt326.2.2.2.1, bt326.2.2.2.2.1, bt326.2.2.2.2.2.1⟩ : S29), bt326.2.2.2.2.2.2.1, bt326.2.2.2.2.2.2.2.1, bt326.2.2.2.2.2.2.2.2.1, (⟨bt326.2.2.2.2.2.2.2.2.2.1, bt326.2.2.2.2.2.2.2.2.2.2.1⟩ : S40), bt326.2.2.2.2.2.2.2.2.2.2.2.1⟩ : S42)] : List (S42)) : List (S42))).bind fun y346 => (if y343.length + y346.length < 1954687338268 then (some (a0_0, wrap64 (a0_1 + 1), (y343 ++ y346), a0_1, 0)) else (none)))) else (none))) else (some (0, 0, ([] : List (S42)), 0, bt326.2.2.2.2.2.2.2.2.2.2.2.2))))) = some (r1, r2, r3, r4, r5) := by rw [if_neg (show ¬ (false = true) by decide)] at H; exact H
   clear H
   have H := H1
   clear H1
   by_cases c18 : a0_1 = 1099511627776
   ·rw [if_pos c18] at H
    have c18b0 : (a0_1 == 1099511627776) = true := beq_iff_eq.mpr c18
    have c18b1 : (a0_1 != 1099511627776) = false := bne_eq_false_iff_eq.mpr c18
    clear c18
    simp only [Option.some.injEq, Prod.mk.injEq] at H
    obtain ⟨rfl, rfl, rfl, rfl, rfl⟩ := H
    go_enter Try.func9, Try.ntmps9
    go_wp2_with (first | ((with_reducible refine gate_dst (N := 2) rfl ?_); refine box_event ?hg (N := 2) ?hd (cs := #[.int .i64 a0_0, .int .i64 a0_1, .slice A0_2 l0_2.length c0_2]) (t := 24) ?hr ?_; (case hd => rfl); (case hg => rfl); (case hr => first | (go_simp; done) | (go_simp; rfl)); intro gb321 hg w19 hbox hb; have ⟨n0_, n2_⟩ := pkB (stb HB) hb hg; have n3_ := n2_; have n1_ := Aside0.mk (hbox); clear HB; have HB := n0_; have BK321 := n1_; have GW321 := n2_; have GE321 := n3_; clear n0_ n1_ n2_ n3_; clear hb hbox hg) | ((with_reducible refine gate_dst (N := 3) rfl ?_); refine box_event ?hg (N := 3) ?hd (cs := #[.int .u8 a1_0, .int .u8 a1_1, .int .u8 a1_2, .int .u32 a1_3, .int .u64 a1_4]) (t := 29) ?hr ?_; (case hd => rfl); (case hg => rfl); (case hr => first | (go_simp; done) | (go_simp; rfl)); intro gb322 hg w20 hbox hb; have ⟨n0_, n5_, n6_⟩ := pkK (stp BK321) hb hg; have ⟨n1_, n3_⟩ := pkB (w := w) (by repeat (first | (with_reducible first | exact HB.out | apply below_alloc | apply pw_below_drewN | apply below_drew1 | refine below_set ?_ GE321.out) | exact HB.out)) hb hg; have n4_ := n3_; have n2_ := Aside0.mk (hbox); clear BK321; clear HB; have BK321 := n0_; have HB := n1_; have BK322 := n2_; have GW322 := n3_; have GE322 := n4_; have NB321_322 := n5_; have NB322_321 := n6_; clear n0_ n1_ n2_ n3_ n4_ n5_ n6_; clear hb hbox hg) | ((with_reducible refine gate_dst (N := 4) rfl ?_); refine box_event ?hg (N := 4) ?hd (cs := #[.int .i64 0, .int .i64 0, .slice none 0 0]) (t := 24) ?hr ?_; (case hd => rfl); (case hg => rfl); (case hr => first | (go_simp; done) | (go_simp; rfl)); intro gb323 hg w21 hbox hb; have ⟨n0_, n6_, n7_⟩ := pkK (stp BK321) hb hg; have ⟨n1_, n8_, n9_⟩ := pkK (stp BK322) hb hg; have ⟨n2_, n4_⟩ := pkB (w := w) (by repeat (first | (with_reducible first | exact HB.out | apply below_alloc | apply pw_below_drewN | apply below_drew1 | refine below_set ?_ GE321.out | refine below_set ?_ GE322.out) | exact HB.out)) hb hg; have n5_ := n4_; have n3_ := Aside0.mk (hbox); clear BK321; clear BK322; clear HB; have BK321 := n0_; have BK322 := n1_; have HB := n2_; have BK323 := n3_; have GW323 := n4_; have GE323 := n5_; have NB321_323 := n6_; have NB323_321 := n7_; have NB322_323 := n8_; have NB323_322 := n9_; clear n0_ n1_ n2_ n3_ n4_ n5_ n6_ n7_ n8_ n9_; clear hb hbox hg; have hnb22 := NB321_322.out; have hnc22 := NB322_321.out; have hnb23 := NB321_323.out; have hnc23 := NB323_321.out; have hcz24_0 : w21.cell? ⟨gb321, 0, none⟩ = some (.int .i64 a0_0) := (blk_cell BK321.out 0).trans rfl; have hcz24_1 : w21.cell? ⟨gb321, 1, none⟩ = some (.int .i64 a0_1) := (blk_cell BK321.out 1).trans rfl; have hcz24_2 : w21.cell? ⟨gb321, 2, none⟩ = some (.slice A0_2 l0_2.length c0_2) := (blk_cell BK321.out 2).trans rfl; have hfz24_0 := blk_frozen BK321.out 0; have hfz24_1 := blk_frozen BK321.out 1; have hfz24_2 := blk_frozen BK321.out 2) | ((with_reducible refine gate_callee (f := 21) rfl ?_); refine goesL_ (some 10) rfl rfl Try.func21 (by kernel_rfl) rfl #[.agg #[.int .i64 a0_0, .int .i64 a0_1, .slice A0_2 l0_2.length c0_2]] rfl (by (try simp only [List.map_toArray, List.map_cons, List.map_nil]); first | done | rfl | (simp only [List.length_drop, List.length_take]; rfl)) ?_; (with_reducible refine (rampartref18_Check.calls k a0_0 a0_1 _ _ l0_2 t324 _ ?side1 ?side2 A3.out).mono ?_); (case side1 => repeat (first | exact (Kd.C_below HR0_2.out HB.out) | (with_reducible refine Kd.C_alloc ?_ _) | (with_reducible refine Kd.C_drewN ?_ _) | (with_reducible refine Kd.C_drew ?_))); (case side2 => exact HC0_2.out); rintro e w25 ⟨rfl, hb⟩; refine ⟨_, rfl, ?_⟩; have n0_ := Aside0.mk (blk_below (stp BK321) hb); have n1_ := Aside0.mk (blk_below (stp BK322) hb); have n2_ := Aside0.mk (blk_below (stp BK323) hb); have n3_ := Aside0.mk (below_step (by repeat (first | (with_reducible first | exact HB.out | apply below_alloc | apply pw_below_drewN | apply below_drew1 | refine below_set ?_ GE321.out | refine below_set ?_ GE322.out | refine below_set ?_ GE323.out) | exact HB.out)) hb); clear BK321; clear BK322; clear BK323; clear HB; have BK321 := n0_; have BK322 := n1_; have BK323 := n2_; have HB := n3_; clear n0_ n1_ n2_ n3_; (try clear hb); (try clear hb2); (try clear hk); (try clear hi); have hcz26_0 : w25.cell? ⟨gb321, 0, none⟩ = some (.int .i64 a0_0) := (blk_cell BK321.out 0).trans rfl; have hcz26_1 : w25.cell? ⟨gb321, 1, none⟩ = some (.int .i64 a0_1) := (blk_cell BK321.out 1).trans rfl; have hcz26_2 : w25.cell? ⟨gb321, 2, none⟩ = some (.slice A0_2 l0_2.length c0_2) := (blk_cell BK321.out 2).trans rfl; have hfz26_0 := blk_frozen BK321.out 0; have hfz26_1 := blk_frozen BK321.out 1; have hfz26_2 := blk_frozen BK321.out 2) | ((with_reducible refine gate_callee (f := 12) rfl ?_); refine goesL_ (some 14) rfl rfl Try.func12 (by kernel_rfl) rfl #[.agg #[.int .i64 a0_0, .int .i64 a0_1, .slice A0_2 l0_2.length c0_2]] rfl (by (try simp only [List.map_toArray, List.map_cons, List.map_nil]); first | done | rfl | (simp only [List.length_drop, List.length_take]; rfl)) ?_; (with_reducible refine (rampartref18_Full.calls k a0_0 a0_1 _ _ l0_2 false _ ?side1 ?side2 A5.out).mono ?_); (case side1 => repeat (first | exact (Kd.C_below HR0_2.out HB.out) | (with_reducible refine Kd.C_alloc ?_ _) | (with_reducible refine Kd.C_drewN ?_ _) | (with_reducible refine Kd.C_drew ?_))); (case side2 => exact HC0_2.out); rintro e w27 ⟨rfl, hb⟩; refine ⟨_, rfl, ?_⟩; have n0_ := Aside0.mk (blk_below (stp BK321) hb); have n1_ := Aside0.mk (blk_below (stp BK322) hb); have n2_ := Aside0.mk (blk_below (stp BK323) hb); have n3_ := Aside0.mk (below_step (by repeat (first | (with_reducible first | exact HB.out | apply below_alloc | apply pw_below_drewN | apply below_drew1 | refine below_set ?_ GE321.out | refine below_set ?_ GE322.out | refine below_set ?_ GE323.out) | exact HB.out)) hb); clear BK321; clear BK322; clear BK323; clear HB; have BK321 := n0_; have BK322 := n1_; have BK323 := n2_; have HB := n3_; clear n0_ n1_ n2_ n3_; (try clear hb); (try clear hb2); (try clear hk); (try clear hi); have hcz28_0 : w27.cell? ⟨gb321, 0, none⟩ = some (.int .i64 a0_0) := (blk_cell BK321.out 0).trans rfl; have hcz28_1 : w27.cell? ⟨gb321, 1, none⟩ = some (.int .i64 a0_1) := (blk_cell BK321.out 1).trans rfl; have hcz28_2 : w27.cell? ⟨gb321, 2, none⟩ = some (.slice A0_2 l0_2.length c0_2) := (blk_cell BK321.out 2).trans rfl; have hfz28_0 := blk_frozen BK321.out 0; have hfz28_1 := blk_frozen BK321.out 1; have hfz28_2 := blk_frozen BK321.out 2; have hnb29 := NB323_322.out; have hnc29 := NB322_323.out; have hcz30_0 : w27.cell? ⟨gb323, 0, none⟩ = some (.int .i64 0) := (blk_cell BK323.out 0).trans rfl; have hcz30_1 : w27.cell? ⟨gb323, 1, none⟩ = some (.int .i64 0) := (blk_cell BK323.out 1).trans rfl; have hcz30_2 : w27.cell? ⟨gb323, 2, none⟩ = some (.slice none 0 0) := (blk_cell BK323.out 2).trans rfl; have hfz30_0 := blk_frozen BK323.out 0; have hfz30_1 := blk_frozen BK323.out 1; have hfz30_2 := blk_frozen BK323.out 2))
    refine bodyPost_ret (results_ctt rfl _ _ gb323 24 #[.int .i64 0, .int .i64 0, .slice none 0 0] (0, 0) _ rfl (by refine stq ?_; refine blk_put (cs := #[.int .i64 0, .int .i64 0, .slice none 0 0]) ?_ 2 _ rfl; refine stq ?_; refine blk_put (cs := #[.int .i64 0, .int .i64 0, .slice none 0 0]) ?_ 1 _ rfl; refine stq ?_; refine blk_put (cs := #[.int .i64 0, .int .i64 0, .slice none 0 0]) ?_ 0 _ rfl; refine stq ?_; exact BK323.out) Try.underlying24 rfl (by kernel_rfl)) rfl ?_
    exact ⟨_, by first | rfl | (simp [errW_none, errW_some] <;> rfl) | (simp [*, errW_none, errW_some] <;> rfl), by first | exact Kd.R_nil _ _ _ _ _ | exact Kd.N_nil _ _ _ _ _ | exact Kd.V_nil _ _ _ _ _ | exact Kd.Q_nil _ _ _ _ _ | exact Kd.S_nil _ _ _ _ _, by repeat (first | (with_reducible first | exact HB.out | apply below_alloc | apply pw_below_drewN | apply below_drew1 | refine below_set ?_ GE321.out | refine below_set ?_ GE322.out | refine below_set ?_ GE323.out) | exact HB.out)⟩
   ·rw [if_neg c18] at H
    have c18b0 : (a0_1 == 1099511627776) = false := beq_eq_false_iff_ne.mpr c18
    have c18b1 : (a0_1 != 1099511627776) = true := bne_iff_ne.mpr c18
    replace H := Option.bind_eq_some_iff.mp H
    obtain ⟨⟨t326, t327, t328, t329, t330, t331, t332, t333, t334, t335, t336, t337, t338⟩, A310, H⟩ := H
    replace H : (if t338 = 0 then ((some (([] : List (S42)) : List (S42))).bind fun y340 => (if y340.length + l0_2.length < 1954687338268 then ((some (y340 ++ l0_2 : List (S42))).bind fun y343 => ((some (([(⟨t326, (⟨t327, t328, t329, t330, t331⟩ : S29), t332, t333, t334, (⟨t335, t336⟩ : S40), t337⟩ : S42)] : List (S42)) : List (S42))).bind fun y346 => (if y343.length + y346.length < 1954687338268 then (some (a0_0, wrap64 (a0_1 + 1), (y343 ++ y346), a0_1, 0)) else (none)))) else (none))) else (some (0, 0, ([] : List (S42)), 0, t338))) = some (r1, r2, r3, r4, r5) := H
    have A31 := Aside0.mk A310
    clear A310
    by_cases c32 : t338 = 0
    ·rw [if_pos c32] at H
     have c32b0 : (t338 == 0) = true := beq_iff_eq.mpr c32
     have c32b1 : (t338 != 0) = false := bne_eq_false_iff_eq.mpr c32
     clear c32
     obtain ⟨y340, hy340⟩ : ∃ y_ : List (S42), y_ = (([] : List (S42))) := ⟨_, rfl⟩
     replace H : (if y340.length + l0_2.length < 1954687338268 then ((some (y340 ++ l0_2 : List (S42))).bind fun y343 => ((some (([(⟨t326, (⟨t327, t328, t329, t330, t331⟩ : S29), t332, t333, t334, (⟨t335, t336⟩ : S40), t337⟩ : S42)] : List (S42)) : List (S42))).bind fun y346 => (if y343.length + y346.length < 1954687338268 then (some (a0_0, wrap64 (a0_1 + 1), (y343 ++ y346), a0_1, 0)) else (none)))) else (none)) = some (r1, r2, r3, r4, r5) := by first | (rw [hy340]; with_reducible exact H) | (have H2_ := (Option.bind_some _ _).symm.trans H; rw [hy340]; with_reducible exact H2_) | (have H2_ := (Option.bind_some _ _).symm.trans H; with_reducible exact H2_) | with_reducible exact H | (rw [hy340]; exact H) | exact H
     have Ny340 := Aside0.mk hy340
     clear hy340
     by_cases c33 : y340.length + l0_2.length < 1954687338268
     ·rw [if_pos c33] at H
      have LMc33 := Aside0.mk c33
      clear c33
      obtain ⟨y343, hy343⟩ : ∃ y_ : List (S42), y_ = (y340 ++ l0_2) := ⟨_, rfl⟩
      replace H : ((some (([(⟨t326, (⟨t327, t328, t329, t330, t331⟩ : S29), t332, t333, t334, (⟨t335, t336⟩ : S40), t337⟩ : S42)] : List (S42)) : List (S42))).bind fun y346 => (if y343.length + y346.length < 1954687338268 then (some (a0_0, wrap64 (a0_1 + 1), (y343 ++ y346), a0_1, 0)) else (none))) = some (r1, r2, r3, r4, r5) := by first | (rw [hy343]; with_reducible exact H) | (have H2_ := (Option.bind_some _ _).symm.trans H; rw [hy343]; with_reducible exact H2_) | (have H2_ := (Option.bind_some _ _).symm.trans H; with_reducible exact H2_) | with_reducible exact H | (rw [hy343]; exact H) | exact H
      have Ny343 := Aside0.mk hy343
      clear hy343
      obtain ⟨y346, hy346⟩ : ∃ y_ : List (S42), y_ = (([(⟨t326, (⟨t327, t328, t329, t330, t331⟩ : S29), t332, t333, t334, (⟨t335, t336⟩ : S40), t337⟩ : S42)] : List (S42))) := ⟨_, rfl⟩
      replace H : (if y343.length + y346.length < 1954687338268 then (some (a0_0, wrap64 (a0_1 + 1), (y343 ++ y346), a0_1, 0)) else (none)) = some (r1, r2, r3, r4, r5) := by first | (rw [hy346]; with_reducible exact H) | (have H2_ := (Option.bind_some _ _).symm.trans H; rw [hy346]; with_reducible exact H2_) | (have H2_ := (Option.bind_some _ _).symm.trans H; with_reducible exact H2_) | with_reducible exact H | (rw [hy346]; exact H) | exact H
      have Ny346 := Aside0.mk hy346
      clear hy346
      by_cases c34 : y343.length + y346.length < 1954687338268
      ·rw [if_pos c34] at H
       have LMc34 := Aside0.mk c34
       clear c34
       obtain ⟨y349, hy349⟩ : ∃ y_ : List (S42), y_ = (y343 ++ y346) := ⟨_, rfl⟩
       replace H : (some (a0_0, wrap64 (a0_1 + 1), y349, a0_1, 0)) = some (r1, r2, r3, r4, r5) := by first | (rw [hy349]; with_reducible exact H) | (have H2_ := (Option.bind_some _ _).symm.trans H; rw [hy349]; with_reducible exact H2_) | (have H2_ := (Option.bind_some _ _).symm.trans H; with_reducible exact H2_) | with_reducible exact H | (rw [hy349]; exact H) | exact H
       have Ny349 := Aside0.mk hy349
       clear hy349
       simp only [Option.some.injEq, Prod.mk.injEq] at H
       obtain ⟨rfl, rfl, rfl, rfl, rfl⟩ := H
       go_enter Try.func9, Try.ntmps9
       try go_wp2_with (first | ((with_reducible refine gate_dst (N := 2) rfl ?_); refine box_event ?hg (N := 2) ?hd (cs := #[.int .i64 a0_0, .int .i64 a0_1, .slice A0_2 l0_2.length c0_2]) (t := 24) ?hr ?_; (case hd => rfl); (case hg => rfl); (case hr => first | (go_simp; done) | (go_simp; rfl)); intro gb321 hg w35 hbox hb; have ⟨n0_, n2_⟩ := pkB (stb HB) hb hg; have n3_ := n2_; have n1_ := Aside0.mk (hbox); clear HB; have HB := n0_; have BK321 := n1_; have GW321 := n2_; have GE321 := n3_; clear n0_ n1_ n2_ n3_; clear hb hbox hg) | ((with_reducible refine gate_dst (N := 3) rfl ?_); refine box_event ?hg (N := 3) ?hd (cs := #[.int .u8 a1_0, .int .u8 a1_1, .int .u8 a1_2, .int .u32 a1_3, .int .u64 a1_4]) (t := 29) ?hr ?_; (case hd => rfl); (case hg => rfl); (case hr => first | (go_simp; done) | (go_simp; rfl)); intro gb322 hg w36 hbox hb; have ⟨n0_, n5_, n6_⟩ := pkK (stp BK321) hb hg; have ⟨n1_, n3_⟩ := pkB (w := w) (by repeat (first | (with_reducible first | exact HB.out | apply below_alloc | apply pw_below_drewN | apply below_drew1 | refine below_set ?_ GE321.out) | exact HB.out)) hb hg; have n4_ := n3_; have n2_ := Aside0.mk (hbox); clear BK321; clear HB; have BK321 := n0_; have HB := n1_; have BK322 := n2_; have GW322 := n3_; have GE322 := n4_; have NB321_322 := n5_; have NB322_321 := n6_; clear n0_ n1_ n2_ n3_ n4_ n5_ n6_; clear hb hbox hg) | ((with_reducible refine gate_dst (N := 4) rfl ?_); refine box_event ?hg (N := 4) ?hd (cs := #[.int .i64 0, .int .i64 0, .slice none 0 0]) (t := 24) ?hr ?_; (case hd => rfl); (case hg => rfl); (case hr => first | (go_simp; done) | (go_simp; rfl)); intro gb323 hg w37 hbox hb; have ⟨n0_, n6_, n7_⟩ := pkK (stp BK321) hb hg; have ⟨n1_, n8_, n9_⟩ := pkK (stp BK322) hb hg; have ⟨n2_, n4_⟩ := pkB (w := w) (by repeat (first | (with_reducible first | exact HB.out | apply below_alloc | apply pw_below_drewN | apply below_drew1 | refine below_set ?_ GE321.out | refine below_set ?_ GE322.out) | exact HB.out)) hb hg; have n5_ := n4_; have n3_ := Aside0.mk (hbox); clear BK321; clear BK322; clear HB; have BK321 := n0_; have BK322 := n1_; have HB := n2_; have BK323 := n3_; have GW323 := n4_; have GE323 := n5_; have NB321_323 := n6_; have NB323_321 := n7_; have NB322_323 := n8_; have NB323_322 := n9_; clear n0_ n1_ n2_ n3_ n4_ n5_ n6_ n7_ n8_ n9_; clear hb hbox hg; have hnb38 := NB321_322.out; have hnc38 := NB322_321.out; have hnb39 := NB321_323.out; have hnc39 := NB323_321.out; have hcz40_0 : w37.cell? ⟨gb321, 0, none⟩ = some (.int .i64 a0_0) := (blk_cell BK321.out 0).trans rfl; have hcz40_1 : w37.cell? ⟨gb321, 1, none⟩ = some (.int .i64 a0_1) := (blk_cell BK321.out 1).trans rfl; have hcz40_2 : w37.cell? ⟨gb321, 2, none⟩ = some (.slice A0_2 l0_2.length c0_2) := (blk_cell BK321.out 2).trans rfl; have hfz40_0 := blk_frozen BK321.out 0; have hfz40_1 := blk_frozen BK321.out 1; have hfz40_2 := blk_frozen BK321.out 2) | ((with_reducible refine gate_callee (f := 21) rfl ?_); refine goesL_ (some 10) rfl rfl Try.func21 (by kernel_rfl) rfl #[.agg #[.int .i64 a0_0, .int .i64 a0_1, .slice A0_2 l0_2.length c0_2]] rfl (by (try simp only [List.map_toArray, List.map_cons, List.map_nil]); first | done | rfl | (simp only [List.length_drop, List.length_take]; rfl)) ?_; (with_reducible refine (rampartref18_Check.calls k a0_0 a0_1 _ _ l0_2 t324 _ ?side1 ?side2 A3.out).mono ?_); (case side1 => repeat (first | exact (Kd.C_below HR0_2.out HB.out) | (with_reducible refine Kd.C_alloc ?_ _) | (with_reducible refine Kd.C_drewN ?_ _) | (with_reducible refine Kd.C_drew ?_))); (case side2 => exact HC0_2.out); rintro e w41 ⟨rfl, hb⟩; refine ⟨_, rfl, ?_⟩; have n0_ := Aside0.mk (blk_below (stp BK321) hb); have n1_ := Aside0.mk (blk_below (stp BK322) hb); have n2_ := Aside0.mk (blk_below (stp BK323) hb); have n3_ := Aside0.mk (below_step (by repeat (first | (with_reducible first | exact HB.out | apply below_alloc | apply pw_below_drewN | apply below_drew1 | refine below_set ?_ GE321.out | refine below_set ?_ GE322.out | refine below_set ?_ GE323.out) | exact HB.out)) hb); clear BK321; clear BK322; clear BK323; clear HB; have BK321 := n0_; have BK322 := n1_; have BK323 := n2_; have HB := n3_; clear n0_ n1_ n2_ n3_; (try clear hb); (try clear hb2); (try clear hk); (try clear hi); have hcz42_0 : w41.cell? ⟨gb321, 0, none⟩ = some (.int .i64 a0_0) := (blk_cell BK321.out 0).trans rfl; have hcz42_1 : w41.cell? ⟨gb321, 1, none⟩ = some (.int .i64 a0_1) := (blk_cell BK321.out 1).trans rfl; have hcz42_2 : w41.cell? ⟨gb321, 2, none⟩ = some (.slice A0_2 l0_2.length c0_2) := (blk_cell BK321.out 2).trans rfl; have hfz42_0 := blk_frozen BK321.out 0; have hfz42_1 := blk_frozen BK321.out 1; have hfz42_2 := blk_frozen BK321.out 2) | ((with_reducible refine gate_callee (f := 12) rfl ?_); refine goesL_ (some 14) rfl rfl Try.func12 (by kernel_rfl) rfl #[.agg #[.int .i64 a0_0, .int .i64 a0_1, .slice A0_2 l0_2.length c0_2]] rfl (by (try simp only [List.map_toArray, List.map_cons, List.map_nil]); first | done | rfl | (simp only [List.length_drop, List.length_take]; rfl)) ?_; (with_reducible refine (rampartref18_Full.calls k a0_0 a0_1 _ _ l0_2 false _ ?side1 ?side2 A5.out).mono ?_); (case side1 => repeat (first | exact (Kd.C_below HR0_2.out HB.out) | (with_reducible refine Kd.C_alloc ?_ _) | (with_reducible refine Kd.C_drewN ?_ _) | (with_reducible refine Kd.C_drew ?_))); (case side2 => exact HC0_2.out); rintro e w43 ⟨rfl, hb⟩; refine ⟨_, rfl, ?_⟩; have n0_ := Aside0.mk (blk_below (stp BK321) hb); have n1_ := Aside0.mk (blk_below (stp BK322) hb); have n2_ := Aside0.mk (blk_below (stp BK323) hb); have n3_ := Aside0.mk (below_step (by repeat (first | (with_reducible first | exact HB.out | apply below_alloc | apply pw_below_drewN | apply below_drew1 | refine below_set ?_ GE321.out | refine below_set ?_ GE322.out | refine below_set ?_ GE323.out) | exact HB.out)) hb); clear BK321; clear BK322; clear BK323; clear HB; have BK321 := n0_; have BK322 := n1_; have BK323 := n2_; have HB := n3_; clear n0_ n1_ n2_ n3_; (try clear hb); (try clear hb2); (try clear hk); (try clear hi); have hcz44_0 : w43.cell? ⟨gb321, 0, none⟩ = some (.int .i64 a0_0) := (blk_cell BK321.out 0).trans rfl; have hcz44_1 : w43.cell? ⟨gb321, 1, none⟩ = some (.int .i64 a0_1) := (blk_cell BK321.out 1).trans rfl; have hcz44_2 : w43.cell? ⟨gb321, 2, none⟩ = some (.slice A0_2 l0_2.length c0_2) := (blk_cell BK321.out 2).trans rfl; have hfz44_0 := blk_frozen BK321.out 0; have hfz44_1 := blk_frozen BK321.out 1; have hfz44_2 := blk_frozen BK321.out 2; have hnb45 := NB322_323.out; have hnc45 := NB323_322.out; have hcz46_0 : w43.cell? ⟨gb322, 0, none⟩ = some (.int .u8 a1_0) := (blk_cell BK322.out 0).trans rfl; have hcz46_1 : w43.cell? ⟨gb322, 1, none⟩ = some (.int .u8 a1_1) := (blk_cell BK322.out 1).trans rfl; have hcz46_2 : w43.cell? ⟨gb322, 2, none⟩ = some (.int .u8 a1_2) := (blk_cell BK322.out 2).trans rfl; have hcz46_3 : w43.cell? ⟨gb322, 3, none⟩ = some (.int .u32 a1_3) := (blk_cell BK322.out 3).trans rfl; have hcz46_4 : w43.cell? ⟨gb322, 4, none⟩ = some (.int .u64 a1_4) := (blk_cell BK322.out 4).trans rfl; have hfz46_0 := blk_frozen BK322.out 0; have hfz46_1 := blk_frozen BK322.out 1; have hfz46_2 := blk_frozen BK322.out 2; have hfz46_3 := blk_frozen BK322.out 3; have hfz46_4 := blk_frozen BK322.out 4) | ((with_reducible refine gate_callee (f := 27) rfl ?_); refine goesL_ (some 24) rfl rfl Try.func27 (by kernel_rfl) rfl #[.int .i64 a0_1, .agg #[.int .u8 a1_0, .int .u8 a1_1, .int .u8 a1_2, .int .u32 a1_3, .int .u64 a1_4]] rfl (by (try simp only [List.map_toArray, List.map_cons, List.map_nil]); first | done | rfl | (simp only [List.length_drop, List.length_take]; rfl)) ?_; (with_reducible refine (rampartref17_New.calls a0_1 a1_0 a1_1 a1_2 a1_3 a1_4 t326 t327 t328 t329 t330 t331 t332 t333 t334 t335 t336 t337 t338 _ A31.out).mono ?_); rintro e w47 ⟨rfl, hb⟩; refine ⟨_, rfl, ?_⟩; have n0_ := Aside0.mk (blk_below (stp BK321) hb); have n1_ := Aside0.mk (blk_below (stp BK322) hb); have n2_ := Aside0.mk (blk_below (stp BK323) hb); have n3_ := Aside0.mk (below_step (by repeat (first | (with_reducible first | exact HB.out | apply below_alloc | apply pw_below_drewN | apply below_drew1 | refine below_set ?_ GE321.out | refine below_set ?_ GE322.out | refine below_set ?_ GE323.out) | exact HB.out)) hb); clear BK321; clear BK322; clear BK323; clear HB; have BK321 := n0_; have BK322 := n1_; have BK323 := n2_; have HB := n3_; clear n0_ n1_ n2_ n3_; (try clear hb); (try clear hb2); (try clear hk); (try clear hi)) | ((with_reducible refine gate_dst (N := 7) rfl ?_); refine box_event ?hg (N := 7) ?hd (cs := #[.int .i64 0, .int .u8 0, .int .u8 0, .int .u8 0, .int .u32 0, .int .u64 0, .int .i64 0, .int .i64 0, .int .i64 0, .int .u64 0, .int .u64 0, .int .u64 0]) (t := 42) ?hr ?_; (case hd => rfl); (case hg => rfl); (case hr => first | (go_simp; done) | (go_simp; rfl)); intro gb339 hg w48 hbox hb; have ⟨n0_, n7_, n8_⟩ := pkK (stp BK321) hb hg; have ⟨n1_, n9_, n10_⟩ := pkK (stp BK322) hb hg; have ⟨n2_, n11_, n12_⟩ := pkK (stp BK323) hb hg; have ⟨n3_, n5_⟩ := pkB (w := w) (by repeat (first | (with_reducible first | exact HB.out | apply below_alloc | apply pw_below_drewN | apply below_drew1 | refine below_set ?_ GE321.out | refine below_set ?_ GE322.out | refine below_set ?_ GE323.out) | exact HB.out)) hb hg; have n6_ := n5_; have n4_ := Aside0.mk (hbox); clear BK321; clear BK322; clear BK323; clear HB; have BK321 := n0_; have BK322 := n1_; have BK323 := n2_; have HB := n3_; have BK339 := n4_; have GW339 := n5_; have GE339 := n6_; have NB321_339 := n7_; have NB339_321 := n8_; have NB322_339 := n9_; have NB339_322 := n10_; have NB323_339 := n11_; have NB339_323 := n12_; clear n0_ n1_ n2_ n3_ n4_ n5_ n6_ n7_ n8_ n9_ n10_ n11_ n12_; clear hb hbox hg; have hnb49 := NB339_321.out; have hnc49 := NB321_339.out; have hnb50 := NB339_322.out; have hnc50 := NB322_339.out; have hnb51 := NB339_323.out; have hnc51 := NB323_339.out; have hcz52_0 : w48.cell? ⟨gb339, 0, none⟩ = some (.int .i64 0) := (blk_cell BK339.out 0).trans rfl; have hcz52_1 : w48.cell? ⟨gb339, 1, none⟩ = some (.int .u8 0) := (blk_cell BK339.out 1).trans rfl; have hcz52_2 : w48.cell? ⟨gb339, 2, none⟩ = some (.int .u8 0) := (blk_cell BK339.out 2).trans rfl; have hcz52_3 : w48.cell? ⟨gb339, 3, none⟩ = some (.int .u8 0) := (blk_cell BK339.out 3).trans rfl; have hcz52_4 : w48.cell? ⟨gb339, 4, none⟩ = some (.int .u32 0) := (blk_cell BK339.out 4).trans rfl; have hcz52_5 : w48.cell? ⟨gb339, 5, none⟩ = some (.int .u64 0) := (blk_cell BK339.out 5).trans rfl; have hcz52_6 : w48.cell? ⟨gb339, 6, none⟩ = some (.int .i64 0) := (blk_cell BK339.out 6).trans rfl; have hcz52_7 : w48.cell? ⟨gb339, 7, none⟩ = some (.int .i64 0) := (blk_cell BK339.out 7).trans rfl; have hcz52_8 : w48.cell? ⟨gb339, 8, none⟩ = some (.int .i64 0) := (blk_cell BK339.out 8).trans rfl; have hcz52_9 : w48.cell? ⟨gb339, 9, none⟩ = some (.int .u64 0) := (blk_cell BK339.out 9).trans rfl; have hcz52_10 : w48.cell? ⟨gb339, 10, none⟩ = some (.int .u64 0) := (blk_cell BK339.out 10).trans rfl; have hcz52_11 : w48.cell? ⟨gb339, 11, none⟩ = some (.int .u64 0) := (blk_cell BK339.out 11).trans rfl; have hfz52_0 := blk_frozen BK339.out 0; have hfz52_1 := blk_frozen BK339.out 1; have hfz52_2 := blk_frozen BK339.out 2; have hfz52_3 := blk_frozen BK339.out 3; have hfz52_4 := blk_frozen BK339.out 4; have hfz52_5 := blk_frozen BK339.out 5; have hfz52_6 := blk_frozen BK339.out 6; have hfz52_7 := blk_frozen BK339.out 7; have hfz52_8 := blk_frozen BK339.out 8; have hfz52_9 := blk_frozen BK339.out 9; have hfz52_10 := blk_frozen BK339.out 10; have hfz52_11 := blk_frozen BK339.out 11))
       have n0_ : Aside0 (((((((((((((w48.setCell ⟨gb339, 0, none⟩ (.int .i64 t326)).setCell ⟨gb339, 1, none⟩ (.int .u8 t327)).setCell ⟨gb339, 2, none⟩ (.int .u8 t328)).setCell ⟨gb339, 3, none⟩ (.int .u8 t329)).setCell ⟨gb339, 4, none⟩ (.int .u32 t330)).setCell ⟨gb339, 5, none⟩ (.int .u64 t331)).setCell ⟨gb339, 6, none⟩ (.int .i64 t332)).setCell ⟨gb339, 7, none⟩ (.int .i64 t333)).setCell ⟨gb339, 8, none⟩ (.int .i64 t334)).setCell ⟨gb339, 9, none⟩ (.int .u64 t335)).setCell ⟨gb339, 10, none⟩ (.int .u64 t336)).setCell ⟨gb339, 11, none⟩ (.int .u64 t337)).heap[gb321]? = some (.cells #[.int .i64 a0_0, .int .i64 a0_1, .slice A0_2 l0_2.length c0_2] 24 (0, 0))) := ⟨by refine stq ?_; refine blk_far ?_ NB321_339.out _; refine stq ?_; refine blk_far ?_ NB321_339.out _; refine stq ?_; refine blk_far ?_ NB321_339.out _; refine stq ?_; refine blk_far ?_ NB321_339.out _; refine stq ?_; refine blk_far ?_ NB321_339.out _; refine stq ?_; refine blk_far ?_ NB321_339.out _; refine stq ?_; refine blk_far ?_ NB321_339.out _; refine stq ?_; refine blk_far ?_ NB321_339.out _; refine stq ?_; refine blk_far ?_ NB321_339.out _; refine stq ?_; refine blk_far ?_ NB321_339.out _; refine stq ?_; refine blk_far ?_ NB321_339.out _; refine stq ?_; refine blk_far ?_ NB321_339.out _; refine stq ?_; exact BK321.out⟩
       have n1_ : Aside0 (((((((((((((w48.setCell ⟨gb339, 0, none⟩ (.int .i64 t326)).setCell ⟨gb339, 1, none⟩ (.int .u8 t327)).setCell ⟨gb339, 2, none⟩ (.int .u8 t328)).setCell ⟨gb339, 3, none⟩ (.int .u8 t329)).setCell ⟨gb339, 4, none⟩ (.int .u32 t330)).setCell ⟨gb339, 5, none⟩ (.int .u64 t331)).setCell ⟨gb339, 6, none⟩ (.int .i64 t332)).setCell ⟨gb339, 7, none⟩ (.int .i64 t333)).setCell ⟨gb339, 8, none⟩ (.int .i64 t334)).setCell ⟨gb339, 9, none⟩ (.int .u64 t335)).setCell ⟨gb339, 10, none⟩ (.int .u64 t336)).setCell ⟨gb339, 11, none⟩ (.int .u64 t337)).heap[gb322]? = some (.cells #[.int .u8 a1_0, .int .u8 a1_1, .int .u8 a1_2, .int .u32 a1_3, .int .u64 a1_4] 29 (0, 0))) := ⟨by refine stq ?_; refine blk_far ?_ NB322_339.out _; refine stq ?_; refine blk_far ?_ NB322_339.out _; refine stq ?_; refine blk_far ?_ NB322_339.out _; refine stq ?_; refine blk_far ?_ NB322_339.out _; refine stq ?_; refine blk_far ?_ NB322_339.out _; refine stq ?_; refine blk_far ?_ NB322_339.out _; refine stq ?_; refine blk_far ?_ NB322_339.out _; refine stq ?_; refine blk_far ?_ NB322_339.out _; refine stq ?_; refine blk_far ?_ NB322_339.out _; refine stq ?_; refine blk_far ?_ NB322_339.out _; refine stq ?_; refine blk_far ?_ NB322_339.out _; refine stq ?_; refine blk_far ?_ NB322_339.out _; refine stq ?_; exact BK322.out⟩
       have n2_ : Aside0 (((((((((((((w48.setCell ⟨gb339, 0, none⟩ (.int .i64 t326)).setCell ⟨gb339, 1, none⟩ (.int .u8 t327)).setCell ⟨gb339, 2, none⟩ (.int .u8 t328)).setCell ⟨gb339, 3, none⟩ (.int .u8 t329)).setCell ⟨gb339, 4, none⟩ (.int .u32 t330)).setCell ⟨gb339, 5, none⟩ (.int .u64 t331)).setCell ⟨gb339, 6, none⟩ (.int .i64 t332)).setCell ⟨gb339, 7, none⟩ (.int .i64 t333)).setCell ⟨gb339, 8, none⟩ (.int .i64 t334)).setCell ⟨gb339, 9, none⟩ (.int .u64 t335)).setCell ⟨gb339, 10, none⟩ (.int .u64 t336)).setCell ⟨gb339, 11, none⟩ (.int .u64 t337)).heap[gb323]? = some (.cells #[.int .i64 0, .int .i64 0, .slice none 0 0] 24 (0, 0))) := ⟨by refine stq ?_; refine blk_far ?_ NB323_339.out _; refine stq ?_; refine blk_far ?_ NB323_339.out _; refine stq ?_; refine blk_far ?_ NB323_339.out _; refine stq ?_; refine blk_far ?_ NB323_339.out _; refine stq ?_; refine blk_far ?_ NB323_339.out _; refine stq ?_; refine blk_far ?_ NB323_339.out _; refine stq ?_; refine blk_far ?_ NB323_339.out _; refine stq ?_; refine blk_far ?_ NB323_339.out _; refine stq ?_; refine blk_far ?_ NB323_339.out _; refine stq ?_; refine blk_far ?_ NB323_339.out _; refine stq ?_; refine blk_far ?_ NB323_339.out _; refine stq ?_; refine blk_far ?_ NB323_339.out _; refine stq ?_; exact BK323.out⟩
       have n3_ : Aside0 (((((((((((((w48.setCell ⟨gb339, 0, none⟩ (.int .i64 t326)).setCell ⟨gb339, 1, none⟩ (.int .u8 t327)).setCell ⟨gb339, 2, none⟩ (.int .u8 t328)).setCell ⟨gb339, 3, none⟩ (.int .u8 t329)).setCell ⟨gb339, 4, none⟩ (.int .u32 t330)).setCell ⟨gb339, 5, none⟩ (.int .u64 t331)).setCell ⟨gb339, 6, none⟩ (.int .i64 t332)).setCell ⟨gb339, 7, none⟩ (.int .i64 t333)).setCell ⟨gb339, 8, none⟩ (.int .i64 t334)).setCell ⟨gb339, 9, none⟩ (.int .u64 t335)).setCell ⟨gb339, 10, none⟩ (.int .u64 t336)).setCell ⟨gb339, 11, none⟩ (.int .u64 t337)).heap[gb339]? = some (.cells #[.int .i64 t326, .int .u8 t327, .int .u8 t328, .int .u8 t329, .int .u32 t330, .int .u64 t331, .int .i64 t332, .int .i64 t333, .int .i64 t334, .int .u64 t335, .int .u64 t336, .int .u64 t337] 42 (0, 0))) := ⟨by refine stq ?_; refine blk_put (cs := #[.int .i64 t326, .int .u8 t327, .int .u8 t328, .int .u8 t329, .int .u32 t330, .int .u64 t331, .int .i64 t332, .int .i64 t333, .int .i64 t334, .int .u64 t335, .int .u64 t336, .int .u64 0]) ?_ 11 _ rfl; refine stq ?_; refine blk_put (cs := #[.int .i64 t326, .int .u8 t327, .int .u8 t328, .int .u8 t329, .int .u32 t330, .int .u64 t331, .int .i64 t332, .int .i64 t333, .int .i64 t334, .int .u64 t335, .int .u64 0, .int .u64 0]) ?_ 10 _ rfl; refine stq ?_; refine blk_put (cs := #[.int .i64 t326, .int .u8 t327, .int .u8 t328, .int .u8 t329, .int .u32 t330, .int .u64 t331, .int .i64 t332, .int .i64 t333, .int .i64 t334, .int .u64 0, .int .u64 0, .int .u64 0]) ?_ 9 _ rfl; refine stq ?_; refine blk_put (cs := #[.int .i64 t326, .int .u8 t327, .int .u8 t328, .int .u8 t329, .int .u32 t330, .int .u64 t331, .int .i64 t332, .int .i64 t333, .int .i64 0, .int .u64 0, .int .u64 0, .int .u64 0]) ?_ 8 _ rfl; refine stq ?_; refine blk_put (cs := #[.int .i64 t326, .int .u8 t327, .int .u8 t328, .int .u8 t329, .int .u32 t330, .int .u64 t331, .int .i64 t332, .int .i64 0, .int .i64 0, .int .u64 0, .int .u64 0, .int .u64 0]) ?_ 7 _ rfl; refine stq ?_; refine blk_put (cs := #[.int .i64 t326, .int .u8 t327, .int .u8 t328, .int .u8 t329, .int .u32 t330, .int .u64 t331, .int .i64 0, .int .i64 0, .int .i64 0, .int .u64 0, .int .u64 0, .int .u64 0]) ?_ 6 _ rfl; refine stq ?_; refine blk_put (cs := #[.int .i64 t326, .int .u8 t327, .int .u8 t328, .int .u8 t329, .int .u32 t330, .int .u64 0, .int .i64 0, .int .i64 0, .int .i64 0, .int .u64 0, .int .u64 0, .int .u64 0]) ?_ 5 _ rfl; refine stq ?_; refine blk_put (cs := #[.int .i64 t326, .int .u8 t327, .int .u8 t328, .int .u8 t329, .int .u32 0, .int .u64 0, .int .i64 0, .int .i64 0, .int .i64 0, .int .u64 0, .int .u64 0, .int .u64 0]) ?_ 4 _ rfl; refine stq ?_; refine blk_put (cs := #[.int .i64 t326, .int .u8 t327, .int .u8 t328, .int .u8 0, .int .u32 0, .int .u64 0, .int .i64 0, .int .i64 0, .int .i64 0, .int .u64 0, .int .u64 0, .int .u64 0]) ?_ 3 _ rfl; refine stq ?_; refine blk_put (cs := #[.int .i64 t326, .int .u8 t327, .int .u8 0, .int .u8 0, .int .u32 0, .int .u64 0, .int .i64 0, .int .i64 0, .int .i64 0, .int .u64 0, .int .u64 0, .int .u64 0]) ?_ 2 _ rfl; refine stq ?_; refine blk_put (cs := #[.int .i64 t326, .int .u8 0, .int .u8 0, .int .u8 0, .int .u32 0, .int .u64 0, .int .i64 0, .int .i64 0, .int .i64 0, .int .u64 0, .int .u64 0, .int .u64 0]) ?_ 1 _ rfl; refine stq ?_; refine blk_put (cs := #[.int .i64 0, .int .u8 0, .int .u8 0, .int .u8 0, .int .u32 0, .int .u64 0, .int .i64 0, .int .i64 0, .int .i64 0, .int .u64 0, .int .u64 0, .int .u64 0]) ?_ 0 _ rfl; refine stq ?_; exact BK339.out⟩
       have n4_ : Aside0 (Below w.heap.size w ((((((((((((w48.setCell ⟨gb339, 0, none⟩ (.int .i64 t326)).setCell ⟨gb339, 1, none⟩ (.int .u8 t327)).setCell ⟨gb339, 2, none⟩ (.int .u8 t328)).setCell ⟨gb339, 3, none⟩ (.int .u8 t329)).setCell ⟨gb339, 4, none⟩ (.int .u32 t330)).setCell ⟨gb339, 5, none⟩ (.int .u64 t331)).setCell ⟨gb339, 6, none⟩ (.int .i64 t332)).setCell ⟨gb339, 7, none⟩ (.int .i64 t333)).setCell ⟨gb339, 8, none⟩ (.int .i64 t334)).setCell ⟨gb339, 9, none⟩ (.int .u64 t335)).setCell ⟨gb339, 10, none⟩ (.int .u64 t336)).setCell ⟨gb339, 11, none⟩ (.int .u64 t337))) := ⟨by repeat (first | (with_reducible first | exact HB.out | apply below_alloc | apply pw_below_drewN | apply below_drew1 | refine below_set ?_ GE321.out | refine below_set ?_ GE322.out | refine below_set ?_ GE323.out | refine below_set ?_ GE339.out) | exact HB.out)⟩
       (try clear BK321)
       (try clear BK322)
       (try clear BK323)
       (try clear BK339)
       (try clear HB)
       generalize ((((((((((((w48.setCell ⟨gb339, 0, none⟩ (.int .i64 t326)).setCell ⟨gb339, 1, none⟩ (.int .u8 t327)).setCell ⟨gb339, 2, none⟩ (.int .u8 t328)).setCell ⟨gb339, 3, none⟩ (.int .u8 t329)).setCell ⟨gb339, 4, none⟩ (.int .u32 t330)).setCell ⟨gb339, 5, none⟩ (.int .u64 t331)).setCell ⟨gb339, 6, none⟩ (.int .i64 t332)).setCell ⟨gb339, 7, none⟩ (.int .i64 t333)).setCell ⟨gb339, 8, none⟩ (.int .i64 t334)).setCell ⟨gb339, 9, none⟩ (.int .u64 t335)).setCell ⟨gb339, 10, none⟩ (.int .u64 t336)).setCell ⟨gb339, 11, none⟩ (.int .u64 t337)) = w53 at n0_ n1_ n2_ n3_ n4_ ⊢
       have BK321 := n0_
       have BK322 := n1_
       have BK323 := n2_
       have BK339 := n3_
       have HB := n4_
       clear n0_ n1_ n2_ n3_ n4_
       have n0_ := Aside0.mk (blk_drew BK321.out)
       have n1_ := Aside0.mk (blk_drew BK322.out)
       have n2_ := Aside0.mk (blk_drew BK323.out)
       have n3_ := Aside0.mk (blk_drew BK339.out)
       have n4_ := Aside0.mk (below_drew1 HB.out)
       clear BK321
       clear BK322
       clear BK323
       clear BK339
       clear HB
       have BK321 := n0_
       have BK322 := n1_
       have BK323 := n2_
       have BK339 := n3_
       have HB := n4_
       clear n0_ n1_ n2_ n3_ n4_
       refine start_ (n := 18) (S := fun w' => w'.cell? ⟨gb321, 0, none⟩ = some (.int .i64 a0_0) ∧ w'.cell? ⟨gb321, 1, none⟩ = some (.int .i64 a0_1) ∧ w'.cell? ⟨gb321, 2, none⟩ = some (.slice A0_2 l0_2.length c0_2) ∧ w'.cell? ⟨gb339, 0, none⟩ = some (.int .i64 t326) ∧ w'.cell? ⟨gb339, 1, none⟩ = some (.int .u8 t327) ∧ w'.cell? ⟨gb339, 2, none⟩ = some (.int .u8 t328) ∧ w'.cell? ⟨gb339, 3, none⟩ = some (.int .u8 t329) ∧ w'.cell? ⟨gb339, 4, none⟩ = some (.int .u32 t330) ∧ w'.cell? ⟨gb339, 5, none⟩ = some (.int .u64 t331) ∧ w'.cell? ⟨gb339, 6, none⟩ = some (.int .i64 t332) ∧ w'.cell? ⟨gb339, 7, none⟩ = some (.int .i64 t333) ∧ w'.cell? ⟨gb339, 8, none⟩ = some (.int .i64 t334) ∧ w'.cell? ⟨gb339, 9, none⟩ = some (.int .u64 t335) ∧ w'.cell? ⟨gb339, 10, none⟩ = some (.int .u64 t336) ∧ w'.cell? ⟨gb339, 11, none⟩ = some (.int .u64 t337)) (ds := []) #[false, false, false, false, false, false, false, false, false, false, false, false, false, false, false, false, false, false] (by kernel_rfl) rfl rfl ⟨(blk_cell BK321.out 0).trans rfl, (blk_cell BK321.out 1).trans rfl, (blk_cell BK321.out 2).trans rfl, (blk_cell BK339.out 0).trans rfl, (blk_cell BK339.out 1).trans rfl, (blk_cell BK339.out 2).trans rfl, (blk_cell BK339.out 3).trans rfl, (blk_cell BK339.out 4).trans rfl, (blk_cell BK339.out 5).trans rfl, (blk_cell BK339.out 6).trans rfl, (blk_cell BK339.out 7).trans rfl, (blk_cell BK339.out 8).trans rfl, (blk_cell BK339.out 9).trans rfl, (blk_cell BK339.out 10).trans rfl, (blk_cell BK339.out 11).trans rfl⟩ (fun hHeld => ?_); refine with_tabW rampartref18_Add.tab10 rampartref18_Add.bits10 (fun HT_ HW_ => ?_)
       generalize w53.drew = w54 at BK321 BK322 BK323 BK339 HB hHeld ⊢
       refine pure_ (i := 0) (N := some 31) (v := ?_) (a' := ?_) #[true, false, false, false, false, false, false, false, false, false, false, false, false, false, false, false, false, false] rfl rfl (any_of HT_.out (by kernel_rfl)) (fun _ _ _ h => h) (Or.inl ⟨by rfl, ?_⟩) ?_ ?_
       rotate_left
       ·intro w'
        go_simp
        with_reducible rfl
       rotate_left
       ·simp only [Act.put, List.setIfInBounds_toArray, List.set_cons_zero, List.set_cons_succ, i64_w, i32_w]
        rfl
       refine pure_ (i := 2) (N := some 33) (v := ?_) (a' := ?_) #[true, false, true, false, false, false, false, false, false, false, false, false, false, false, false, false, false, false] rfl rfl (any_of HT_.out (by kernel_rfl)) (fun _ _ _ h => h) (Or.inl ⟨by rfl, ?_⟩) ?_ ?_
       rotate_left
       ·intro w'
        go_simp
        with_reducible rfl
       rotate_left
       ·simp only [Act.put, List.setIfInBounds_toArray, List.set_cons_zero, List.set_cons_succ, i64_w, i32_w]
        rfl
       refine pure_ (i := 6) (N := some 37) (v := ?_) (a' := ?_) #[true, false, true, false, false, false, true, false, false, false, false, false, false, false, false, false, false, false] rfl rfl (any_of HT_.out (by kernel_rfl)) (fun _ _ _ h => h) (Or.inl ⟨by rfl, ?_⟩) ?_ ?_
       rotate_left
       ·intro w'
        go_simp
        with_reducible rfl
       rotate_left
       ·simp only [Act.put, List.setIfInBounds_toArray, List.set_cons_zero, List.set_cons_succ, i64_w, i32_w]
        rfl
       refine pure_ (i := 13) (N := some 44) (v := ?_) (a' := ?_) #[true, false, true, false, false, false, true, false, false, false, false, false, false, true, false, false, false, false] rfl rfl (any_of HT_.out (by kernel_rfl)) (fun _ _ _ h => h) (Or.inl ⟨by rfl, ?_⟩) ?_ ?_
       rotate_left
       ·intro w'
        go_simp
        with_reducible rfl
       rotate_left
       ·simp only [Act.put, List.setIfInBounds_toArray, List.set_cons_zero, List.set_cons_succ, i64_w, i32_w]
        rfl
       refine take_ (i := 1) (N := some 32) (v := ?_) (a' := ?_) #[true, true, true, false, false, false, true, false, false, false, false, false, false, true, false, false, false, false] rfl rfl (take_ofW HT_.out HW_.out (by kernel_rfl)) (fun _ _ _ h => h) (Or.inl ⟨by rfl, ?_⟩) hHeld ?_ ?_
       rotate_left
       ·rintro w' ⟨s0, s1, s2, s3, s4, s5, s6, s7, s8, s9, s10, s11, s12, s13, s14⟩
        go_simp
        with_reducible rfl
       rotate_left
       ·simp only [Act.put, List.setIfInBounds_toArray, List.set_cons_zero, List.set_cons_succ, i64_w, i32_w]
        rfl
       refine take_ (i := 3) (N := some 34) (v := ?_) (a' := ?_) #[true, true, true, true, false, false, true, false, false, false, false, false, false, true, false, false, false, false] rfl rfl (take_ofW HT_.out HW_.out (by kernel_rfl)) (fun _ _ _ h => h) (Or.inl ⟨by rfl, ?_⟩) hHeld ?_ ?_
       rotate_left
       ·rintro w' ⟨s0, s1, s2, s3, s4, s5, s6, s7, s8, s9, s10, s11, s12, s13, s14⟩
        go_simp
        with_reducible rfl
       rotate_left
       ·simp only [Act.put, List.setIfInBounds_toArray, List.set_cons_zero, List.set_cons_succ, i64_w, i32_w]
        rfl
       refine pure_ (i := 4) (N := some 35) (v := ?_) (a' := ?_) #[true, true, true, true, true, false, true, false, false, false, false, false, false, true, false, false, false, false] rfl rfl (any_of HT_.out (by kernel_rfl)) (fun _ _ _ h => h) (Or.inl ⟨by rfl, ?_⟩) ?_ ?_
       rotate_left
       ·intro w'
        go_simp
        with_reducible rfl
       rotate_left
       ·simp only [Act.put, List.setIfInBounds_toArray, List.set_cons_zero, List.set_cons_succ, i64_w, i32_w]
        rfl
       refine take_ (i := 7) (N := some 38) (v := ?_) (a' := ?_) #[true, true, true, true, true, false, true, true, false, false, false, false, false, true, false, false, false, false] rfl rfl (take_ofW HT_.out HW_.out (by kernel_rfl)) (fun _ _ _ h => h) (Or.inl ⟨by rfl, ?_⟩) hHeld ?_ ?_
       rotate_left
       ·rintro w' ⟨s0, s1, s2, s3, s4, s5, s6, s7, s8, s9, s10, s11, s12, s13, s14⟩
        go_simp
        with_reducible rfl
       rotate_left
       ·simp only [Act.put, List.setIfInBounds_toArray, List.set_cons_zero, List.set_cons_succ, i64_w, i32_w]
        rfl
       refine take_ (i := 9) (N := some 40) (v := ?_) (a' := ?_) #[true, true, true, true, true, false, true, true, false, true, false, false, false, true, false, false, false, false] rfl rfl (take_ofW HT_.out HW_.out (by kernel_rfl)) (fun _ _ _ h => h) (Or.inl ⟨by rfl, ?_⟩) hHeld ?_ ?_
       rotate_left
       ·rintro w' ⟨s0, s1, s2, s3, s4, s5, s6, s7, s8, s9, s10, s11, s12, s13, s14⟩
        go_simp
        with_reducible rfl
       rotate_left
       ·simp only [Act.put, List.setIfInBounds_toArray, List.set_cons_zero, List.set_cons_succ, i64_w, i32_w]
        rfl
       refine take_ (i := 14) (N := some 45) (v := ?_) (a' := ?_) #[true, true, true, true, true, false, true, true, false, true, false, false, false, true, true, false, false, false] rfl rfl (take_ofW HT_.out HW_.out (by kernel_rfl)) (fun _ _ _ h => h) (Or.inl ⟨by rfl, ?_⟩) hHeld ?_ ?_
       rotate_left
       ·rintro w' ⟨s0, s1, s2, s3, s4, s5, s6, s7, s8, s9, s10, s11, s12, s13, s14⟩
        go_simp
        with_reducible rfl
       rotate_left
       ·simp only [Act.put, List.setIfInBounds_toArray, List.set_cons_zero, List.set_cons_succ, i64_w, i32_w]
        rfl
       refine join_ (σ := Value × Value × Value) 5 #[true, true, true, true, true, true, true, true, true, true, true, false, false, true, true, false, false, false] (fun s_ => [(36, s_.1), (39, s_.2.1), (41, s_.2.2)]) (fun s_ w' => (w'.cell? ⟨gb321, 0, none⟩ = some (.int .i64 a0_0) ∧ w'.cell? ⟨gb321, 1, none⟩ = some (.int .i64 a0_1) ∧ w'.cell? ⟨gb321, 2, none⟩ = some (.slice A0_2 l0_2.length c0_2) ∧ w'.cell? ⟨gb339, 0, none⟩ = some (.int .i64 t326) ∧ w'.cell? ⟨gb339, 1, none⟩ = some (.int .u8 t327) ∧ w'.cell? ⟨gb339, 2, none⟩ = some (.int .u8 t328) ∧ w'.cell? ⟨gb339, 3, none⟩ = some (.int .u8 t329) ∧ w'.cell? ⟨gb339, 4, none⟩ = some (.int .u32 t330) ∧ w'.cell? ⟨gb339, 5, none⟩ = some (.int .u64 t331) ∧ w'.cell? ⟨gb339, 6, none⟩ = some (.int .i64 t332) ∧ w'.cell? ⟨gb339, 7, none⟩ = some (.int .i64 t333) ∧ w'.cell? ⟨gb339, 8, none⟩ = some (.int .i64 t334) ∧ w'.cell? ⟨gb339, 9, none⟩ = some (.int .u64 t335) ∧ w'.cell? ⟨gb339, 10, none⟩ = some (.int .u64 t336) ∧ w'.cell? ⟨gb339, 11, none⟩ = some (.int .u64 t337)) ∧ (Kd.R k42 42 w' w.heap.size (fun k_ => some k_ ≠ (s_.2.2 : Value).ownBlock ∧ k_ ≠ gb339) s_.2.1 y343) ∧ (Kd.R k42 42 w' w.heap.size (fun k_ => some k_ ≠ (s_.2.1 : Value).ownBlock ∧ k_ ≠ gb339) s_.2.2 y346) ∧ (w'.heap[gb321]? = some (.cells #[.int .i64 a0_0, .int .i64 a0_1, .slice A0_2 l0_2.length c0_2] 24 (0, 0))) ∧ (w'.heap[gb322]? = some (.cells #[.int .u8 a1_0, .int .u8 a1_1, .int .u8 a1_2, .int .u32 a1_3, .int .u64 a1_4] 29 (0, 0))) ∧ (w'.heap[gb323]? = some (.cells #[.int .i64 0, .int .i64 0, .slice none 0 0] 24 (0, 0))) ∧ (w'.heap[gb339]? = some (.cells #[.int .i64 t326, .int .u8 t327, .int .u8 t328, .int .u8 t329, .int .u32 t330, .int .u64 t331, .int .i64 t332, .int .i64 t333, .int .i64 t334, .int .u64 t335, .int .u64 t336, .int .u64 t337] 42 (0, 0))) ∧ (Below w.heap.size w w')) ?_ ?_
       rotate_left
       ·intro hCont
        refine two_ (i := 5) (j := 10) (Ni := some 36) (Nj := some 41) #[true, true, true, true, true, true, true, true, false, true, false, false, false, true, true, false, false, false] #[true, true, true, true, true, false, true, true, false, true, true, false, false, true, true, false, false, false] rfl rfl rfl rfl (two_of HT_.out (by kernel_rfl)) (by decide) (by decide) (fun K hK => ?_) (fun K hK => ?_)
        ·skip
         refine Kd.R_lit_step k42 _ 42 ?hg (N := 36) ?hd (xs := ([] : List (S42))) (inner := []) (ok := fun _ => True) (okp := fun _ => True) ?hr ?hp (fun _ hk => hk) trivial (Below.refl _ _) (Nat.le_refl _) (by simp) ?_; (case hd => rfl); (case hg => rfl); (case hr => first | (go_simp; done) | (go_simp; rfl)); (case hp => exact (Reps.none _ _))
         intro v341 w55 ho56 hb hg_ hnew_
         clear hg_ hnew_
         (first | rw [← Ny340.out] at ho56 | (simp only [Int.reduceToNat] at ho56; rw [← Ny340.out] at ho56))
         have n0_ := Aside0.mk (Kd.R_lower (Kd.R_newB ho56 (g := gb339) (o := .cells #[.int .i64 t326, .int .u8 t327, .int .u8 t328, .int .u8 t329, .int .u32 t330, .int .u64 t331, .int .i64 t332, .int .i64 t333, .int .i64 t334, .int .u64 t335, .int .u64 t336, .int .u64 t337] 42 (0, 0)) (stp BK339)) (below_size (by repeat (first | (with_reducible first | exact HB.out | apply below_alloc | apply pw_below_drewN | apply below_drew1 | refine below_set ?_ GE321.out | refine below_set ?_ GE322.out | refine below_set ?_ GE323.out | refine below_set ?_ GE339.out) | exact HB.out))))
         have n1_ := Aside0.mk (blk_below (stp BK321) hb)
         have n2_ := Aside0.mk (blk_below (stp BK322) hb)
         have n3_ := Aside0.mk (blk_below (stp BK323) hb)
         have n4_ := Aside0.mk (blk_below (stp BK339) hb)
         have n5_ := Aside0.mk (below_step (by repeat (first | (with_reducible first | exact HB.out | apply below_alloc | apply pw_below_drewN | apply below_drew1 | refine below_set ?_ GE321.out | refine below_set ?_ GE322.out | refine below_set ?_ GE323.out | refine below_set ?_ GE339.out) | exact HB.out)) hb)
         clear BK321
         clear BK322
         clear BK323
         clear BK339
         clear HB
         have HO342 := n0_
         have BK321 := n1_
         have BK322 := n2_
         have BK323 := n3_
         have BK339 := n4_
         have HB := n5_
         clear n0_ n1_ n2_ n3_ n4_ n5_
         clear hb ho56
         refine hK.out _ _ ⟨(blk_cell BK321.out 0).trans rfl, (blk_cell BK321.out 1).trans rfl, (blk_cell BK321.out 2).trans rfl, (blk_cell BK339.out 0).trans rfl, (blk_cell BK339.out 1).trans rfl, (blk_cell BK339.out 2).trans rfl, (blk_cell BK339.out 3).trans rfl, (blk_cell BK339.out 4).trans rfl, (blk_cell BK339.out 5).trans rfl, (blk_cell BK339.out 6).trans rfl, (blk_cell BK339.out 7).trans rfl, (blk_cell BK339.out 8).trans rfl, (blk_cell BK339.out 9).trans rfl, (blk_cell BK339.out 10).trans rfl, (blk_cell BK339.out 11).trans rfl⟩ (fun hHeld => ?_)
         clear hK K
         refine norm_ (a' := ?_) ?_ ?_
         rotate_left
         ·show Act.put _ (some 36) _ = _
          simp only [Act.put, List.setIfInBounds_toArray, List.set_cons_zero, List.set_cons_succ, i64_w, i32_w]
          rfl
         refine two_ (i := 8) (j := 10) (Ni := some 39) (Nj := some 41) #[true, true, true, true, true, true, true, true, true, true, false, false, false, true, true, false, false, false] #[true, true, true, true, true, true, true, true, false, true, true, false, false, true, true, false, false, false] rfl rfl rfl rfl (two_of HT_.out (by kernel_rfl)) (by decide) (by decide) (fun K hK => ?_) (fun K hK => ?_)
         ·skip
          refine Kd.R_append_rows_step k42 (w0 := w) w.heap.size (by rfl) (.tmp 36) (.tmp 38) 22 42 (.agg #[(.int .i64 0), (.int .u8 0), (.int .u8 0), (.int .u8 0), (.int .u32 0), (.int .u64 0), (.int .i64 0), (.int .i64 0), (.int .i64 0), (.int .u64 0), (.int .u64 0), (.int .u64 0)]) 72 rfl Try.underlying22 info42 rfl (by decide) (by omega) v341 y340 l0_2 _ _ _ (fun k_ => k_ ≠ gb339) (fun _ => False) rfl rfl ?aO ?aR (fun _ _ h => h) (fun _ h => h.elim) ?aF ?aB ?aS ?aL ?_
          (case aR => repeat (first | exact (Kd.C_below HR0_2.out HB.out) | (with_reducible refine Kd.C_alloc ?_ _) | (with_reducible refine Kd.C_drewN ?_ _) | (with_reducible refine Kd.C_drew ?_)))
          (case aB => exact (by repeat (first | (with_reducible first | exact HB.out | apply below_alloc | apply pw_below_drewN | apply below_drew1 | refine below_set ?_ GE321.out | refine below_set ?_ GE322.out | refine below_set ?_ GE323.out | refine below_set ?_ GE339.out) | exact HB.out)))
          (case aF => exact (fun k_ hk => Kd.freshB (g := gb339) (o := .cells #[.int .i64 t326, .int .u8 t327, .int .u8 t328, .int .u8 t329, .int .u32 t330, .int .u64 t331, .int .i64 t332, .int .i64 t333, .int .i64 t334, .int .u64 t335, .int .u64 t336, .int .u64 t337] 42 (0, 0)) (stp BK339) k_ hk))
          (case aO => exact (by (with_reducible repeat (first | apply Kd.R_alloc | apply Kd.R_drewN | apply Kd.R_drew)); exact Kd.R_mono HO342.out (fun _ hk => hk.2)))
          (case aS => exact (below_size (by repeat (first | (with_reducible first | exact HB.out | apply below_alloc | apply pw_below_drewN | apply below_drew1 | refine below_set ?_ GE321.out | refine below_set ?_ GE322.out | refine below_set ?_ GE323.out | refine below_set ?_ GE339.out) | exact HB.out))))
          (case aL => have := LMc33.out; omega)
          intro v344 w57 ho hb hg hat
          rw [← Ny343.out] at ho
          have n0_ := Aside0.mk (blk_grown (g := gb321) (o := .cells #[.int .i64 a0_0, .int .i64 a0_1, .slice A0_2 l0_2.length c0_2] 24 (0, 0)) (stp BK321) hg (Kd.R_ne HO342.out BK321.out (by decide)))
          have n1_ := Aside0.mk (blk_grown (g := gb322) (o := .cells #[.int .u8 a1_0, .int .u8 a1_1, .int .u8 a1_2, .int .u32 a1_3, .int .u64 a1_4] 29 (0, 0)) (stp BK322) hg (Kd.R_ne HO342.out BK322.out (by decide)))
          have n2_ := Aside0.mk (blk_grown (g := gb323) (o := .cells #[.int .i64 0, .int .i64 0, .slice none 0 0] 24 (0, 0)) (stp BK323) hg (Kd.R_ne HO342.out BK323.out (by decide)))
          have n3_ := Aside0.mk (blk_grown (g := gb339) (o := .cells #[.int .i64 t326, .int .u8 t327, .int .u8 t328, .int .u8 t329, .int .u32 t330, .int .u64 t331, .int .i64 t332, .int .i64 t333, .int .i64 t334, .int .u64 t335, .int .u64 t336, .int .u64 t337] 42 (0, 0)) (stp BK339) hg (Kd.R_away HO342.out (fun _ hk => hk.2)))
          have n4_ := Aside0.mk (hb)
          have n5_ := Aside0.mk (ho)
          clear BK321
          clear BK322
          clear BK323
          clear BK339
          clear HB
          clear HO342
          have BK321 := n0_
          have BK322 := n1_
          have BK323 := n2_
          have BK339 := n3_
          have HB := n4_
          have HO345 := n5_
          clear n0_ n1_ n2_ n3_ n4_ n5_
          clear ho hb hg hat
          refine hK.out _ _ ⟨(blk_cell BK321.out 0).trans rfl, (blk_cell BK321.out 1).trans rfl, (blk_cell BK321.out 2).trans rfl, (blk_cell BK339.out 0).trans rfl, (blk_cell BK339.out 1).trans rfl, (blk_cell BK339.out 2).trans rfl, (blk_cell BK339.out 3).trans rfl, (blk_cell BK339.out 4).trans rfl, (blk_cell BK339.out 5).trans rfl, (blk_cell BK339.out 6).trans rfl, (blk_cell BK339.out 7).trans rfl, (blk_cell BK339.out 8).trans rfl, (blk_cell BK339.out 9).trans rfl, (blk_cell BK339.out 10).trans rfl, (blk_cell BK339.out 11).trans rfl⟩ (fun hHeld => ?_)
          clear hK K
          refine norm_ (a' := ?_) ?_ ?_
          rotate_left
          ·show Act.put _ (some 39) _ = _
           simp only [Act.put, List.setIfInBounds_toArray, List.set_cons_zero, List.set_cons_succ, i64_w, i32_w]
           rfl
          refine one_ (i := 10) (N := some 41) #[true, true, true, true, true, true, true, true, true, true, true, false, false, true, true, false, false, false] rfl rfl (one_of HT_.out (by kernel_rfl)) (by decide) (fun K hK => ?_)
          refine Kd.R_lit_step k42 _ 42 ?hg (N := 41) ?hd (xs := ([(⟨t326, (⟨t327, t328, t329, t330, t331⟩ : S29), t332, t333, t334, (⟨t335, t336⟩ : S40), t337⟩ : S42)] : List (S42))) (inner := [.int .i64 t326, .int .u8 t327, .int .u8 t328, .int .u8 t329, .int .u32 t330, .int .u64 t331, .int .i64 t332, .int .i64 t333, .int .i64 t334, .int .u64 t335, .int .u64 t336, .int .u64 t337]) (ok := fun _ => True) (okp := fun _ => True) ?hr ?hp (fun _ hk => hk) trivial (Below.refl _ _) (Nat.le_refl _) (by simp) ?_; (case hd => rfl); (case hg => rfl); (case hr => first | (go_simp; done) | (go_simp; rfl)); (case hp => exact (Reps.front (show Kd.M k42 _ _ _ (⟨t326, (⟨t327, t328, t329, t330, t331⟩ : S29), t332, t333, t334, (⟨t335, t336⟩ : S40), t337⟩ : S42) [.int .i64 t326, .int .u8 t327, .int .u8 t328, .int .u8 t329, .int .u32 t330, .int .u64 t331, .int .i64 t332, .int .i64 t333, .int .i64 t334, .int .u64 t335, .int .u64 t336, .int .u64 t337] from (k42_mkM _ _ _ (⟨t326, (⟨t327, t328, t329, t330, t331⟩ : S29), t332, t333, t334, (⟨t335, t336⟩ : S40), t337⟩ : S42) )) rfl (Reps.none _ _) rfl))
          intro v347 w58 ho59 hb hg_ hnew_
          clear hg_ hnew_
          (first | rw [← Ny346.out] at ho59 | (simp only [Int.reduceToNat] at ho59; rw [← Ny346.out] at ho59))
          have n0_ := Aside0.mk (Kd.R_elder' (by (with_reducible repeat (first | apply Kd.R_alloc | apply Kd.R_drewN | apply Kd.R_drew)); exact HO345.out) (Kd.R_base ho59) hb)
          have n1_ := Aside0.mk (Kd.R_lower (Kd.R_newB (Kd.R_new' ho59 (Kd.R_lt (by (with_reducible repeat (first | apply Kd.R_alloc | apply Kd.R_drewN | apply Kd.R_drew)); exact HO345.out))) (g := gb339) (o := .cells #[.int .i64 t326, .int .u8 t327, .int .u8 t328, .int .u8 t329, .int .u32 t330, .int .u64 t331, .int .i64 t332, .int .i64 t333, .int .i64 t334, .int .u64 t335, .int .u64 t336, .int .u64 t337] 42 (0, 0)) (stp BK339)) (below_size (by repeat (first | (with_reducible first | exact HB.out | apply below_alloc | apply pw_below_drewN | apply below_drew1 | refine below_set ?_ GE321.out | refine below_set ?_ GE322.out | refine below_set ?_ GE323.out | refine below_set ?_ GE339.out) | exact HB.out))))
          have n2_ := Aside0.mk (blk_below (stp BK321) hb)
          have n3_ := Aside0.mk (blk_below (stp BK322) hb)
          have n4_ := Aside0.mk (blk_below (stp BK323) hb)
          have n5_ := Aside0.mk (blk_below (stp BK339) hb)
          have n6_ := Aside0.mk (below_step (by repeat (first | (with_reducible first | exact HB.out | apply below_alloc | apply pw_below_drewN | apply below_drew1 | refine below_set ?_ GE321.out | refine below_set ?_ GE322.out | refine below_set ?_ GE323.out | refine below_set ?_ GE339.out) | exact HB.out)) hb)
          clear HO345
          clear BK321
          clear BK322
          clear BK323
          clear BK339
          clear HB
          have HO345 := n0_
          have HO348 := n1_
          have BK321 := n2_
          have BK322 := n3_
          have BK323 := n4_
          have BK339 := n5_
          have HB := n6_
          clear n0_ n1_ n2_ n3_ n4_ n5_ n6_
          clear hb ho59
          refine hK.out _ _ ⟨(blk_cell BK321.out 0).trans rfl, (blk_cell BK321.out 1).trans rfl, (blk_cell BK321.out 2).trans rfl, (blk_cell BK339.out 0).trans rfl, (blk_cell BK339.out 1).trans rfl, (blk_cell BK339.out 2).trans rfl, (blk_cell BK339.out 3).trans rfl, (blk_cell BK339.out 4).trans rfl, (blk_cell BK339.out 5).trans rfl, (blk_cell BK339.out 6).trans rfl, (blk_cell BK339.out 7).trans rfl, (blk_cell BK339.out 8).trans rfl, (blk_cell BK339.out 9).trans rfl, (blk_cell BK339.out 10).trans rfl, (blk_cell BK339.out 11).trans rfl⟩ (fun hHeld => ?_)
          clear hK K
          refine norm_ (a' := ?_) ?_ ?_
          rotate_left
          ·show Act.put _ (some 41) _ = _
           simp only [Act.put, List.setIfInBounds_toArray, List.set_cons_zero, List.set_cons_succ, i64_w, i32_w]
           rfl
          exact norm_ (by simp only [putAll, Act.put, List.setIfInBounds_toArray, List.set_cons_zero, List.set_cons_succ]) (hCont (v341, v344, v347) _ ⟨hHeld, (by (with_reducible repeat (first | apply Kd.R_alloc | apply Kd.R_drewN | apply Kd.R_drew)); exact Kd.R_mono HO345.out (fun _ hk => ⟨hk.2, hk.1⟩)), (by (with_reducible repeat (first | apply Kd.R_alloc | apply Kd.R_drewN | apply Kd.R_drew)); exact Kd.R_mono HO348.out (fun _ hk => ⟨hk.1.2, hk.2⟩)), (stp BK321), (stp BK322), (stp BK323), (stp BK339), (by repeat (first | (with_reducible first | exact HB.out | apply below_alloc | apply pw_below_drewN | apply below_drew1 | refine below_set ?_ GE321.out | refine below_set ?_ GE322.out | refine below_set ?_ GE323.out | refine below_set ?_ GE339.out) | exact HB.out))⟩)
         ·skip
          refine Kd.R_lit_step k42 _ 42 ?hg (N := 41) ?hd (xs := ([(⟨t326, (⟨t327, t328, t329, t330, t331⟩ : S29), t332, t333, t334, (⟨t335, t336⟩ : S40), t337⟩ : S42)] : List (S42))) (inner := [.int .i64 t326, .int .u8 t327, .int .u8 t328, .int .u8 t329, .int .u32 t330, .int .u64 t331, .int .i64 t332, .int .i64 t333, .int .i64 t334, .int .u64 t335, .int .u64 t336, .int .u64 t337]) (ok := fun _ => True) (okp := fun _ => True) ?hr ?hp (fun _ hk => hk) trivial (Below.refl _ _) (Nat.le_refl _) (by simp) ?_; (case hd => rfl); (case hg => rfl); (case hr => first | (go_simp; done) | (go_simp; rfl)); (case hp => exact (Reps.front (show Kd.M k42 _ _ _ (⟨t326, (⟨t327, t328, t329, t330, t331⟩ : S29), t332, t333, t334, (⟨t335, t336⟩ : S40), t337⟩ : S42) [.int .i64 t326, .int .u8 t327, .int .u8 t328, .int .u8 t329, .int .u32 t330, .int .u64 t331, .int .i64 t332, .int .i64 t333, .int .i64 t334, .int .u64 t335, .int .u64 t336, .int .u64 t337] from (k42_mkM _ _ _ (⟨t326, (⟨t327, t328, t329, t330, t331⟩ : S29), t332, t333, t334, (⟨t335, t336⟩ : S40), t337⟩ : S42) )) rfl (Reps.none _ _) rfl))
          intro v347 w57 ho58 hb hg_ hnew_
          clear hg_ hnew_
          (first | rw [← Ny346.out] at ho58 | (simp only [Int.reduceToNat] at ho58; rw [← Ny346.out] at ho58))
          have n0_ := Aside0.mk (Kd.R_elder' (by (with_reducible repeat (first | apply Kd.R_alloc | apply Kd.R_drewN | apply Kd.R_drew)); exact HO342.out) (Kd.R_base ho58) hb)
          have n1_ := Aside0.mk (Kd.R_lower (Kd.R_newB (Kd.R_new' ho58 (Kd.R_lt (by (with_reducible repeat (first | apply Kd.R_alloc | apply Kd.R_drewN | apply Kd.R_drew)); exact HO342.out))) (g := gb339) (o := .cells #[.int .i64 t326, .int .u8 t327, .int .u8 t328, .int .u8 t329, .int .u32 t330, .int .u64 t331, .int .i64 t332, .int .i64 t333, .int .i64 t334, .int .u64 t335, .int .u64 t336, .int .u64 t337] 42 (0, 0)) (stp BK339)) (below_size (by repeat (first | (with_reducible first | exact HB.out | apply below_alloc | apply pw_below_drewN | apply below_drew1 | refine below_set ?_ GE321.out | refine below_set ?_ GE322.out | refine below_set ?_ GE323.out | refine below_set ?_ GE339.out) | exact HB.out))))
          have n2_ := Aside0.mk (blk_below (stp BK321) hb)
          have n3_ := Aside0.mk (blk_below (stp BK322) hb)
          have n4_ := Aside0.mk (blk_below (stp BK323) hb)
          have n5_ := Aside0.mk (blk_below (stp BK339) hb)
          have n6_ := Aside0.mk (below_step (by repeat (first | (with_reducible first | exact HB.out | apply below_alloc | apply pw_below_drewN | apply below_drew1 | refine below_set ?_ GE321.out | refine below_set ?_ GE322.out | refine below_set ?_ GE323.out | refine below_set ?_ GE339.out) | exact HB.out)) hb)
          clear HO342
          clear BK321
          clear BK322
          clear BK323
          clear BK339
          clear HB
          have HO342 := n0_
          have HO348 := n1_
          have BK321 := n2_
          have BK322 := n3_
          have BK323 := n4_
          have BK339 := n5_
          have HB := n6_
          clear n0_ n1_ n2_ n3_ n4_ n5_ n6_
          clear hb ho58
          refine hK.out _ _ ⟨(blk_cell BK321.out 0).trans rfl, (blk_cell BK321.out 1).trans rfl, (blk_cell BK321.out 2).trans rfl, (blk_cell BK339.out 0).trans rfl, (blk_cell BK339.out 1).trans rfl, (blk_cell BK339.out 2).trans rfl, (blk_cell BK339.out 3).trans rfl, (blk_cell BK339.out 4).trans rfl, (blk_cell BK339.out 5).trans rfl, (blk_cell BK339.out 6).trans rfl, (blk_cell BK339.out 7).trans rfl, (blk_cell BK339.out 8).trans rfl, (blk_cell BK339.out 9).trans rfl, (blk_cell BK339.out 10).trans rfl, (blk_cell BK339.out 11).trans rfl⟩ (fun hHeld => ?_)
          clear hK K
          refine norm_ (a' := ?_) ?_ ?_
          rotate_left
          ·show Act.put _ (some 41) _ = _
           simp only [Act.put, List.setIfInBounds_toArray, List.set_cons_zero, List.set_cons_succ, i64_w, i32_w]
           rfl
          refine one_ (i := 8) (N := some 39) #[true, true, true, true, true, true, true, true, true, true, true, false, false, true, true, false, false, false] rfl rfl (one_of HT_.out (by kernel_rfl)) (by decide) (fun K hK => ?_)
          refine Kd.R_append_rows_step k42 (w0 := w) w.heap.size (by rfl) (.tmp 36) (.tmp 38) 22 42 (.agg #[(.int .i64 0), (.int .u8 0), (.int .u8 0), (.int .u8 0), (.int .u32 0), (.int .u64 0), (.int .i64 0), (.int .i64 0), (.int .i64 0), (.int .u64 0), (.int .u64 0), (.int .u64 0)]) 72 rfl Try.underlying22 info42 rfl (by decide) (by omega) v341 y340 l0_2 _ _ _ (fun k_ => some k_ ≠ (v347 : Value).ownBlock ∧ k_ ≠ gb339) (fun _ => False) rfl rfl ?aO ?aR (fun _ _ h => h) (fun _ h => h.elim) ?aF ?aB ?aS ?aL ?_
          (case aR => repeat (first | exact (Kd.C_below HR0_2.out HB.out) | (with_reducible refine Kd.C_alloc ?_ _) | (with_reducible refine Kd.C_drewN ?_ _) | (with_reducible refine Kd.C_drew ?_)))
          (case aB => exact (by repeat (first | (with_reducible first | exact HB.out | apply below_alloc | apply pw_below_drewN | apply below_drew1 | refine below_set ?_ GE321.out | refine below_set ?_ GE322.out | refine below_set ?_ GE323.out | refine below_set ?_ GE339.out) | exact HB.out)))
          (case aF => exact (fun k_ hk => ⟨Kd.fresh' (Kd.R_lt (by (with_reducible repeat (first | apply Kd.R_alloc | apply Kd.R_drewN | apply Kd.R_drew)); exact HO348.out)) k_ hk, Kd.freshB (g := gb339) (o := .cells #[.int .i64 t326, .int .u8 t327, .int .u8 t328, .int .u8 t329, .int .u32 t330, .int .u64 t331, .int .i64 t332, .int .i64 t333, .int .i64 t334, .int .u64 t335, .int .u64 t336, .int .u64 t337] 42 (0, 0)) (stp BK339) k_ hk⟩))
          (case aO => exact (by (with_reducible repeat (first | apply Kd.R_alloc | apply Kd.R_drewN | apply Kd.R_drew)); exact Kd.R_mono HO342.out (fun _ hk => ⟨hk.2, hk.1.2⟩)))
          (case aS => exact (below_size (by repeat (first | (with_reducible first | exact HB.out | apply below_alloc | apply pw_below_drewN | apply below_drew1 | refine below_set ?_ GE321.out | refine below_set ?_ GE322.out | refine below_set ?_ GE323.out | refine below_set ?_ GE339.out) | exact HB.out))))
          (case aL => have := LMc33.out; omega)
          intro v344 w59 ho hb hg hat
          rw [← Ny343.out] at ho
          have n0_ := Aside0.mk (blk_grown (g := gb321) (o := .cells #[.int .i64 a0_0, .int .i64 a0_1, .slice A0_2 l0_2.length c0_2] 24 (0, 0)) (stp BK321) hg (Kd.R_ne HO342.out BK321.out (by decide)))
          have n1_ := Aside0.mk (blk_grown (g := gb322) (o := .cells #[.int .u8 a1_0, .int .u8 a1_1, .int .u8 a1_2, .int .u32 a1_3, .int .u64 a1_4] 29 (0, 0)) (stp BK322) hg (Kd.R_ne HO342.out BK322.out (by decide)))
          have n2_ := Aside0.mk (blk_grown (g := gb323) (o := .cells #[.int .i64 0, .int .i64 0, .slice none 0 0] 24 (0, 0)) (stp BK323) hg (Kd.R_ne HO342.out BK323.out (by decide)))
          have n3_ := Aside0.mk (blk_grown (g := gb339) (o := .cells #[.int .i64 t326, .int .u8 t327, .int .u8 t328, .int .u8 t329, .int .u32 t330, .int .u64 t331, .int .i64 t332, .int .i64 t333, .int .i64 t334, .int .u64 t335, .int .u64 t336, .int .u64 t337] 42 (0, 0)) (stp BK339) hg (Kd.R_away HO342.out (fun _ hk => hk.1.2)))
          have n4_ := Aside0.mk (Kd.R_after (ok := (fun k_ => k_ ≠ gb339)) (by (with_reducible repeat (first | apply Kd.R_alloc | apply Kd.R_drewN | apply Kd.R_drew)); exact Kd.R_mono HO348.out (fun _ hk => ⟨hk.2, hk.1.2⟩)) hg hat)
          have n5_ := Aside0.mk (hb)
          have n6_ := Aside0.mk (ho)
          clear BK321
          clear BK322
          clear BK323
          clear BK339
          clear HO348
          clear HB
          clear HO342
          have BK321 := n0_
          have BK322 := n1_
          have BK323 := n2_
          have BK339 := n3_
          have HO348 := n4_
          have HB := n5_
          have HO345 := n6_
          clear n0_ n1_ n2_ n3_ n4_ n5_ n6_
          clear ho hb hg hat
          refine hK.out _ _ ⟨(blk_cell BK321.out 0).trans rfl, (blk_cell BK321.out 1).trans rfl, (blk_cell BK321.out 2).trans rfl, (blk_cell BK339.out 0).trans rfl, (blk_cell BK339.out 1).trans rfl, (blk_cell BK339.out 2).trans rfl, (blk_cell BK339.out 3).trans rfl, (blk_cell BK339.out 4).trans rfl, (blk_cell BK339.out 5).trans rfl, (blk_cell BK339.out 6).trans rfl, (blk_cell BK339.out 7).trans rfl, (blk_cell BK339.out 8).trans rfl, (blk_cell BK339.out 9).trans rfl, (blk_cell BK339.out 10).trans rfl, (blk_cell BK339.out 11).trans rfl⟩ (fun hHeld => ?_)
          clear hK K
          refine norm_ (a' := ?_) ?_ ?_
          rotate_left
          ·show Act.put _ (some 39) _ = _
           simp only [Act.put, List.setIfInBounds_toArray, List.set_cons_zero, List.set_cons_succ, i64_w, i32_w]
           rfl
          exact norm_ (by simp only [putAll, Act.put, List.setIfInBounds_toArray, List.set_cons_zero, List.set_cons_succ]) (hCont (v341, v344, v347) _ ⟨hHeld, (by (with_reducible repeat (first | apply Kd.R_alloc | apply Kd.R_drewN | apply Kd.R_drew)); exact HO345.out), (by (with_reducible repeat (first | apply Kd.R_alloc | apply Kd.R_drewN | apply Kd.R_drew)); exact Kd.R_mono HO348.out (fun _ hk => ⟨hk.2, hk.1⟩)), (stp BK321), (stp BK322), (stp BK323), (stp BK339), (by repeat (first | (with_reducible first | exact HB.out | apply below_alloc | apply pw_below_drewN | apply below_drew1 | refine below_set ?_ GE321.out | refine below_set ?_ GE322.out | refine below_set ?_ GE323.out | refine below_set ?_ GE339.out) | exact HB.out))⟩)
        ·skip
         refine Kd.R_lit_step k42 _ 42 ?hg (N := 41) ?hd (xs := ([(⟨t326, (⟨t327, t328, t329, t330, t331⟩ : S29), t332, t333, t334, (⟨t335, t336⟩ : S40), t337⟩ : S42)] : List (S42))) (inner := [.int .i64 t326, .int .u8 t327, .int .u8 t328, .int .u8 t329, .int .u32 t330, .int .u64 t331, .int .i64 t332, .int .i64 t333, .int .i64 t334, .int .u64 t335, .int .u64 t336, .int .u64 t337]) (ok := fun _ => True) (okp := fun _ => True) ?hr ?hp (fun _ hk => hk) trivial (Below.refl _ _) (Nat.le_refl _) (by simp) ?_; (case hd => rfl); (case hg => rfl); (case hr => first | (go_simp; done) | (go_simp; rfl)); (case hp => exact (Reps.front (show Kd.M k42 _ _ _ (⟨t326, (⟨t327, t328, t329, t330, t331⟩ : S29), t332, t333, t334, (⟨t335, t336⟩ : S40), t337⟩ : S42) [.int .i64 t326, .int .u8 t327, .int .u8 t328, .int .u8 t329, .int .u32 t330, .int .u64 t331, .int .i64 t332, .int .i64 t333, .int .i64 t334, .int .u64 t335, .int .u64 t336, .int .u64 t337] from (k42_mkM _ _ _ (⟨t326, (⟨t327, t328, t329, t330, t331⟩ : S29), t332, t333, t334, (⟨t335, t336⟩ : S40), t337⟩ : S42) )) rfl (Reps.none _ _) rfl))
         intro v347 w55 ho56 hb hg_ hnew_
         clear hg_ hnew_
         (first | rw [← Ny346.out] at ho56 | (simp only [Int.reduceToNat] at ho56; rw [← Ny346.out] at ho56))
         have n0_ := Aside0.mk (Kd.R_lower (Kd.R_newB ho56 (g := gb339) (o := .cells #[.int .i64 t326, .int .u8 t327, .int .u8 t328, .int .u8 t329, .int .u32 t330, .int .u64 t331, .int .i64 t332, .int .i64 t333, .int .i64 t334, .int .u64 t335, .int .u64 t336, .int .u64 t337] 42 (0, 0)) (stp BK339)) (below_size (by repeat (first | (with_reducible first | exact HB.out | apply below_alloc | apply pw_below_drewN | apply below_drew1 | refine below_set ?_ GE321.out | refine below_set ?_ GE322.out | refine below_set ?_ GE323.out | refine below_set ?_ GE339.out) | exact HB.out))))
         have n1_ := Aside0.mk (blk_below (stp BK321) hb)
         have n2_ := Aside0.mk (blk_below (stp BK322) hb)
         have n3_ := Aside0.mk (blk_below (stp BK323) hb)
         have n4_ := Aside0.mk (blk_below (stp BK339) hb)
         have n5_ := Aside0.mk (below_step (by repeat (first | (with_reducible first | exact HB.out | apply below_alloc | apply pw_below_drewN | apply below_drew1 | refine below_set ?_ GE321.out | refine below_set ?_ GE322.out | refine below_set ?_ GE323.out | refine below_set ?_ GE339.out) | exact HB.out)) hb)
         clear BK321
         clear BK322
         clear BK323
         clear BK339
         clear HB
         have HO348 := n0_
         have BK321 := n1_
         have BK322 := n2_
         have BK323 := n3_
         have BK339 := n4_
         have HB := n5_
         clear n0_ n1_ n2_ n3_ n4_ n5_
         clear hb ho56
         refine hK.out _ _ ⟨(blk_cell BK321.out 0).trans rfl, (blk_cell BK321.out 1).trans rfl, (blk_cell BK321.out 2).trans rfl, (blk_cell BK339.out 0).trans rfl, (blk_cell BK339.out 1).trans rfl, (blk_cell BK339.out 2).trans rfl, (blk_cell BK339.out 3).trans rfl, (blk_cell BK339.out 4).trans rfl, (blk_cell BK339.out 5).trans rfl, (blk_cell BK339.out 6).trans rfl, (blk_cell BK339.out 7).trans rfl, (blk_cell BK339.out 8).trans rfl, (blk_cell BK339.out 9).trans rfl, (blk_cell BK339.out 10).trans rfl, (blk_cell BK339.out 11).trans rfl⟩ (fun hHeld => ?_)
         clear hK K
         refine norm_ (a' := ?_) ?_ ?_
         rotate_left
         ·show Act.put _ (some 41) _ = _
          simp only [Act.put, List.setIfInBounds_toArray, List.set_cons_zero, List.set_cons_succ, i64_w, i32_w]
          rfl
         refine one_ (i := 5) (N := some 36) #[true, true, true, true, true, true, true, true, false, true, true, false, false, true, true, false, false, false] rfl rfl (one_of HT_.out (by kernel_rfl)) (by decide) (fun K hK => ?_)
         refine Kd.R_lit_step k42 _ 42 ?hg (N := 36) ?hd (xs := ([] : List (S42))) (inner := []) (ok := fun _ => True) (okp := fun _ => True) ?hr ?hp (fun _ hk => hk) trivial (Below.refl _ _) (Nat.le_refl _) (by simp) ?_; (case hd => rfl); (case hg => rfl); (case hr => first | (go_simp; done) | (go_simp; rfl)); (case hp => exact (Reps.none _ _))
         intro v341 w57 ho58 hb hg_ hnew_
         clear hg_ hnew_
         (first | rw [← Ny340.out] at ho58 | (simp only [Int.reduceToNat] at ho58; rw [← Ny340.out] at ho58))
         have n0_ := Aside0.mk (Kd.R_elder' (by (with_reducible repeat (first | apply Kd.R_alloc | apply Kd.R_drewN | apply Kd.R_drew)); exact HO348.out) (Kd.R_base ho58) hb)
         have n1_ := Aside0.mk (Kd.R_lower (Kd.R_newB (Kd.R_new' ho58 (Kd.R_lt (by (with_reducible repeat (first | apply Kd.R_alloc | apply Kd.R_drewN | apply Kd.R_drew)); exact HO348.out))) (g := gb339) (o := .cells #[.int .i64 t326, .int .u8 t327, .int .u8 t328, .int .u8 t329, .int .u32 t330, .int .u64 t331, .int .i64 t332, .int .i64 t333, .int .i64 t334, .int .u64 t335, .int .u64 t336, .int .u64 t337] 42 (0, 0)) (stp BK339)) (below_size (by repeat (first | (with_reducible first | exact HB.out | apply below_alloc | apply pw_below_drewN | apply below_drew1 | refine below_set ?_ GE321.out | refine below_set ?_ GE322.out | refine below_set ?_ GE323.out | refine below_set ?_ GE339.out) | exact HB.out))))
         have n2_ := Aside0.mk (blk_below (stp BK321) hb)
         have n3_ := Aside0.mk (blk_below (stp BK322) hb)
         have n4_ := Aside0.mk (blk_below (stp BK323) hb)
         have n5_ := Aside0.mk (blk_below (stp BK339) hb)
         have n6_ := Aside0.mk (below_step (by repeat (first | (with_reducible first | exact HB.out | apply below_alloc | apply pw_below_drewN | apply below_drew1 | refine below_set ?_ GE321.out | refine below_set ?_ GE322.out | refine below_set ?_ GE323.out | refine below_set ?_ GE339.out) | exact HB.out)) hb)
         clear HO348
         clear BK321
         clear BK322
         clear BK323
         clear BK339
         clear HB
         have HO348 := n0_
         have HO342 := n1_
         have BK321 := n2_
         have BK322 := n3_
         have BK323 := n4_
         have BK339 := n5_
         have HB := n6_
         clear n0_ n1_ n2_ n3_ n4_ n5_ n6_
         clear hb ho58
         refine hK.out _ _ ⟨(blk_cell BK321.out 0).trans rfl, (blk_cell BK321.out 1).trans rfl, (blk_cell BK321.out 2).trans rfl, (blk_cell BK339.out 0).trans rfl, (blk_cell BK339.out 1).trans rfl, (blk_cell BK339.out 2).trans rfl, (blk_cell BK339.out 3).trans rfl, (blk_cell BK339.out 4).trans rfl, (blk_cell BK339.out 5).trans rfl, (blk_cell BK339.out 6).trans rfl, (blk_cell BK339.out 7).trans rfl, (blk_cell BK339.out 8).trans rfl, (blk_cell BK339.out 9).trans rfl, (blk_cell BK339.out 10).trans rfl, (blk_cell BK339.out 11).trans rfl⟩ (fun hHeld => ?_)
         clear hK K
         refine norm_ (a' := ?_) ?_ ?_
         rotate_left
         ·show Act.put _ (some 36) _ = _
          simp only [Act.put, List.setIfInBounds_toArray, List.set_cons_zero, List.set_cons_succ, i64_w, i32_w]
          rfl
         refine one_ (i := 8) (N := some 39) #[true, true, true, true, true, true, true, true, true, true, true, false, false, true, true, false, false, false] rfl rfl (one_of HT_.out (by kernel_rfl)) (by decide) (fun K hK => ?_)
         refine Kd.R_append_rows_step k42 (w0 := w) w.heap.size (by rfl) (.tmp 36) (.tmp 38) 22 42 (.agg #[(.int .i64 0), (.int .u8 0), (.int .u8 0), (.int .u8 0), (.int .u32 0), (.int .u64 0), (.int .i64 0), (.int .i64 0), (.int .i64 0), (.int .u64 0), (.int .u64 0), (.int .u64 0)]) 72 rfl Try.underlying22 info42 rfl (by decide) (by omega) v341 y340 l0_2 _ _ _ (fun k_ => some k_ ≠ (v347 : Value).ownBlock ∧ k_ ≠ gb339) (fun _ => False) rfl rfl ?aO ?aR (fun _ _ h => h) (fun _ h => h.elim) ?aF ?aB ?aS ?aL ?_
         (case aR => repeat (first | exact (Kd.C_below HR0_2.out HB.out) | (with_reducible refine Kd.C_alloc ?_ _) | (with_reducible refine Kd.C_drewN ?_ _) | (with_reducible refine Kd.C_drew ?_)))
         (case aB => exact (by repeat (first | (with_reducible first | exact HB.out | apply below_alloc | apply pw_below_drewN | apply below_drew1 | refine below_set ?_ GE321.out | refine below_set ?_ GE322.out | refine below_set ?_ GE323.out | refine below_set ?_ GE339.out) | exact HB.out)))
         (case aF => exact (fun k_ hk => ⟨Kd.fresh' (Kd.R_lt (by (with_reducible repeat (first | apply Kd.R_alloc | apply Kd.R_drewN | apply Kd.R_drew)); exact HO348.out)) k_ hk, Kd.freshB (g := gb339) (o := .cells #[.int .i64 t326, .int .u8 t327, .int .u8 t328, .int .u8 t329, .int .u32 t330, .int .u64 t331, .int .i64 t332, .int .i64 t333, .int .i64 t334, .int .u64 t335, .int .u64 t336, .int .u64 t337] 42 (0, 0)) (stp BK339) k_ hk⟩))
         (case aO => exact (by (with_reducible repeat (first | apply Kd.R_alloc | apply Kd.R_drewN | apply Kd.R_drew)); exact Kd.R_mono HO342.out (fun _ hk => ⟨hk.1.2, hk.2⟩)))
         (case aS => exact (below_size (by repeat (first | (with_reducible first | exact HB.out | apply below_alloc | apply pw_below_drewN | apply below_drew1 | refine below_set ?_ GE321.out | refine below_set ?_ GE322.out | refine below_set ?_ GE323.out | refine below_set ?_ GE339.out) | exact HB.out))))
         (case aL => have := LMc33.out; omega)
         intro v344 w59 ho hb hg hat
         rw [← Ny343.out] at ho
         have n0_ := Aside0.mk (blk_grown (g := gb321) (o := .cells #[.int .i64 a0_0, .int .i64 a0_1, .slice A0_2 l0_2.length c0_2] 24 (0, 0)) (stp BK321) hg (Kd.R_ne HO342.out BK321.out (by decide)))
         have n1_ := Aside0.mk (blk_grown (g := gb322) (o := .cells #[.int .u8 a1_0, .int .u8 a1_1, .int .u8 a1_2, .int .u32 a1_3, .int .u64 a1_4] 29 (0, 0)) (stp BK322) hg (Kd.R_ne HO342.out BK322.out (by decide)))
         have n2_ := Aside0.mk (blk_grown (g := gb323) (o := .cells #[.int .i64 0, .int .i64 0, .slice none 0 0] 24 (0, 0)) (stp BK323) hg (Kd.R_ne HO342.out BK323.out (by decide)))
         have n3_ := Aside0.mk (blk_grown (g := gb339) (o := .cells #[.int .i64 t326, .int .u8 t327, .int .u8 t328, .int .u8 t329, .int .u32 t330, .int .u64 t331, .int .i64 t332, .int .i64 t333, .int .i64 t334, .int .u64 t335, .int .u64 t336, .int .u64 t337] 42 (0, 0)) (stp BK339) hg (Kd.R_away HO342.out (fun _ hk => hk.2)))
         have n4_ := Aside0.mk (Kd.R_after (ok := (fun k_ => k_ ≠ gb339)) (by (with_reducible repeat (first | apply Kd.R_alloc | apply Kd.R_drewN | apply Kd.R_drew)); exact Kd.R_mono HO348.out (fun _ hk => ⟨hk.1.2, hk.2⟩)) hg hat)
         have n5_ := Aside0.mk (hb)
         have n6_ := Aside0.mk (ho)
         clear BK321
         clear BK322
         clear BK323
         clear BK339
         clear HO348
         clear HB
         clear HO342
         have BK321 := n0_
         have BK322 := n1_
         have BK323 := n2_
         have BK339 := n3_
         have HO348 := n4_
         have HB := n5_
         have HO345 := n6_
         clear n0_ n1_ n2_ n3_ n4_ n5_ n6_
         clear ho hb hg hat
         refine hK.out _ _ ⟨(blk_cell BK321.out 0).trans rfl, (blk_cell BK321.out 1).trans rfl, (blk_cell BK321.out 2).trans rfl, (blk_cell BK339.out 0).trans rfl, (blk_cell BK339.out 1).trans rfl, (blk_cell BK339.out 2).trans rfl, (blk_cell BK339.out 3).trans rfl, (blk_cell BK339.out 4).trans rfl, (blk_cell BK339.out 5).trans rfl, (blk_cell BK339.out 6).trans rfl, (blk_cell BK339.out 7).trans rfl, (blk_cell BK339.out 8).trans rfl, (blk_cell BK339.out 9).trans rfl, (blk_cell BK339.out 10).trans rfl, (blk_cell BK339.out 11).trans rfl⟩ (fun hHeld => ?_)
         clear hK K
         refine norm_ (a' := ?_) ?_ ?_
         rotate_left
         ·show Act.put _ (some 39) _ = _
          simp only [Act.put, List.setIfInBounds_toArray, List.set_cons_zero, List.set_cons_succ, i64_w, i32_w]
          rfl
         exact norm_ (by simp only [putAll, Act.put, List.setIfInBounds_toArray, List.set_cons_zero, List.set_cons_succ]) (hCont (v341, v344, v347) _ ⟨hHeld, (by (with_reducible repeat (first | apply Kd.R_alloc | apply Kd.R_drewN | apply Kd.R_drew)); exact HO345.out), (by (with_reducible repeat (first | apply Kd.R_alloc | apply Kd.R_drewN | apply Kd.R_drew)); exact Kd.R_mono HO348.out (fun _ hk => ⟨hk.2, hk.1⟩)), (stp BK321), (stp BK322), (stp BK323), (stp BK339), (by repeat (first | (with_reducible first | exact HB.out | apply below_alloc | apply pw_below_drewN | apply below_drew1 | refine below_set ?_ GE321.out | refine below_set ?_ GE322.out | refine below_set ?_ GE323.out | refine below_set ?_ GE339.out) | exact HB.out))⟩)
       rintro ⟨v341, v344, v347⟩ w60 ⟨hS_, h0_, h1_, h2_, h3_, h4_, h5_, h6_⟩
       have n0_ : Aside0 (Kd.R k42 42 w60 w.heap.size (fun k_ => some k_ ≠ (v347 : Value).ownBlock ∧ k_ ≠ gb339) v344 y343) := ⟨h0_⟩
       have n1_ : Aside0 (Kd.R k42 42 w60 w.heap.size (fun k_ => some k_ ≠ (v344 : Value).ownBlock ∧ k_ ≠ gb339) v347 y346) := ⟨h1_⟩
       have n2_ : Aside0 (w60.heap[gb321]? = some (.cells #[.int .i64 a0_0, .int .i64 a0_1, .slice A0_2 l0_2.length c0_2] 24 (0, 0))) := ⟨h2_⟩
       have n3_ : Aside0 (w60.heap[gb322]? = some (.cells #[.int .u8 a1_0, .int .u8 a1_1, .int .u8 a1_2, .int .u32 a1_3, .int .u64 a1_4] 29 (0, 0))) := ⟨h3_⟩
       have n4_ : Aside0 (w60.heap[gb323]? = some (.cells #[.int .i64 0, .int .i64 0, .slice none 0 0] 24 (0, 0))) := ⟨h4_⟩
       have n5_ : Aside0 (w60.heap[gb339]? = some (.cells #[.int .i64 t326, .int .u8 t327, .int .u8 t328, .int .u8 t329, .int .u32 t330, .int .u64 t331, .int .i64 t332, .int .i64 t333, .int .i64 t334, .int .u64 t335, .int .u64 t336, .int .u64 t337] 42 (0, 0))) := ⟨h5_⟩
       have n6_ : Aside0 (Below w.heap.size w w60) := ⟨h6_⟩
       clear BK321
       clear BK322
       clear BK323
       clear BK339
       clear HB
       clear h0_ h1_ h2_ h3_ h4_ h5_ h6_
       have HO345 := n0_
       have HO348 := n1_
       have BK321 := n2_
       have BK322 := n3_
       have BK323 := n4_
       have BK339 := n5_
       have HB := n6_
       clear n0_ n1_ n2_ n3_ n4_ n5_ n6_
       have hHeld : w60.cell? ⟨gb321, 0, none⟩ = some (.int .i64 a0_0) ∧ w60.cell? ⟨gb321, 1, none⟩ = some (.int .i64 a0_1) ∧ w60.cell? ⟨gb321, 2, none⟩ = some (.slice A0_2 l0_2.length c0_2) ∧ w60.cell? ⟨gb339, 0, none⟩ = some (.int .i64 t326) ∧ w60.cell? ⟨gb339, 1, none⟩ = some (.int .u8 t327) ∧ w60.cell? ⟨gb339, 2, none⟩ = some (.int .u8 t328) ∧ w60.cell? ⟨gb339, 3, none⟩ = some (.int .u8 t329) ∧ w60.cell? ⟨gb339, 4, none⟩ = some (.int .u32 t330) ∧ w60.cell? ⟨gb339, 5, none⟩ = some (.int .u64 t331) ∧ w60.cell? ⟨gb339, 6, none⟩ = some (.int .i64 t332) ∧ w60.cell? ⟨gb339, 7, none⟩ = some (.int .i64 t333) ∧ w60.cell? ⟨gb339, 8, none⟩ = some (.int .i64 t334) ∧ w60.cell? ⟨gb339, 9, none⟩ = some (.int .u64 t335) ∧ w60.cell? ⟨gb339, 10, none⟩ = some (.int .u64 t336) ∧ w60.cell? ⟨gb339, 11, none⟩ = some (.int .u64 t337) := hS_
       obtain ⟨Ao62, co62, eo62⟩ := Kd.R_slice HO348.out
       (first | subst eo62 | (injection eo62 with f1_ f2_ f3_; have f4_ := f1_.symm; have f5_ := f3_.symm; clear f1_ f2_ f3_; subst f4_; subst f5_))
       refine norm_ (a' := ?_) ?_ ?_
       rotate_left
       ·simp only [putAll, Act.put, List.setIfInBounds_toArray, List.set_cons_zero, List.set_cons_succ]
        rfl
       refine one_ (i := 11) (N := some 42) #[true, true, true, true, true, true, true, true, true, true, true, true, false, true, true, false, false, false] rfl rfl (one_of HT_.out (by kernel_rfl)) (by decide) (fun K hK => ?_)
       refine Kd.R_append_rows_step k42 (w0 := w) w.heap.size (by rfl) (.tmp 39) (.tmp 41) 22 42 (.agg #[(.int .i64 0), (.int .u8 0), (.int .u8 0), (.int .u8 0), (.int .u32 0), (.int .u64 0), (.int .i64 0), (.int .i64 0), (.int .i64 0), (.int .u64 0), (.int .u64 0), (.int .u64 0)]) 72 rfl Try.underlying22 info42 rfl (by decide) (by omega) v344 y343 y346 _ _ _ (fun k_ => some k_ ≠ (.slice Ao62 y346.length co62 : Value).ownBlock ∧ k_ ≠ gb339) (fun _ => False) rfl rfl ?aO ?aR (fun _ _ h => h) (fun _ h => h.elim) ?aF ?aB ?aS ?aL ?_
       (case aR => repeat (first | exact (Kd.R_reads' HO348.out).2.2 | (with_reducible refine Kd.C_alloc ?_ _) | (with_reducible refine Kd.C_drewN ?_ _) | (with_reducible refine Kd.C_drew ?_)))
       (case aB => exact (by repeat (first | (with_reducible first | exact HB.out | apply below_alloc | apply pw_below_drewN | apply below_drew1 | refine below_set ?_ GE321.out | refine below_set ?_ GE322.out | refine below_set ?_ GE323.out | refine below_set ?_ GE339.out) | exact HB.out)))
       (case aF => exact (fun k_ hk => ⟨Kd.fresh' (Kd.R_lt (by (with_reducible repeat (first | apply Kd.R_alloc | apply Kd.R_drewN | apply Kd.R_drew)); exact HO348.out)) k_ hk, Kd.freshB (g := gb339) (o := .cells #[.int .i64 t326, .int .u8 t327, .int .u8 t328, .int .u8 t329, .int .u32 t330, .int .u64 t331, .int .i64 t332, .int .i64 t333, .int .i64 t334, .int .u64 t335, .int .u64 t336, .int .u64 t337] 42 (0, 0)) (stp BK339) k_ hk⟩))
       (case aO => exact (by (with_reducible repeat (first | apply Kd.R_alloc | apply Kd.R_drewN | apply Kd.R_drew)); exact HO345.out))
       (case aS => exact (below_size (by repeat (first | (with_reducible first | exact HB.out | apply below_alloc | apply pw_below_drewN | apply below_drew1 | refine below_set ?_ GE321.out | refine below_set ?_ GE322.out | refine below_set ?_ GE323.out | refine below_set ?_ GE339.out) | exact HB.out))))
       (case aL => have := LMc34.out; omega)
       intro v350 w61 ho hb hg hat
       rw [← Ny349.out] at ho
       have n0_ := Aside0.mk (blk_grown (g := gb321) (o := .cells #[.int .i64 a0_0, .int .i64 a0_1, .slice A0_2 l0_2.length c0_2] 24 (0, 0)) (stp BK321) hg (Kd.R_ne HO345.out BK321.out (by decide)))
       have n1_ := Aside0.mk (blk_grown (g := gb322) (o := .cells #[.int .u8 a1_0, .int .u8 a1_1, .int .u8 a1_2, .int .u32 a1_3, .int .u64 a1_4] 29 (0, 0)) (stp BK322) hg (Kd.R_ne HO345.out BK322.out (by decide)))
       have n2_ := Aside0.mk (blk_grown (g := gb323) (o := .cells #[.int .i64 0, .int .i64 0, .slice none 0 0] 24 (0, 0)) (stp BK323) hg (Kd.R_ne HO345.out BK323.out (by decide)))
       have n3_ := Aside0.mk (blk_grown (g := gb339) (o := .cells #[.int .i64 t326, .int .u8 t327, .int .u8 t328, .int .u8 t329, .int .u32 t330, .int .u64 t331, .int .i64 t332, .int .i64 t333, .int .i64 t334, .int .u64 t335, .int .u64 t336, .int .u64 t337] 42 (0, 0)) (stp BK339) hg (Kd.R_away HO345.out (fun _ hk => hk.2)))
       have n4_ := Aside0.mk (Kd.R_after (ok := (fun k_ => k_ ≠ gb339)) (by (with_reducible repeat (first | apply Kd.R_alloc | apply Kd.R_drewN | apply Kd.R_drew)); exact Kd.R_mono HO348.out (fun _ hk => ⟨hk.2, hk.1⟩)) hg hat)
       have n5_ := Aside0.mk (hb)
       have n6_ := Aside0.mk (ho)
       clear BK321
       clear BK322
       clear BK323
       clear BK339
       clear HO348
       clear HB
       clear HO345
       have BK321 := n0_
       have BK322 := n1_
       have BK323 := n2_
       have BK339 := n3_
       have HO348 := n4_
       have HB := n5_
       have HO351 := n6_
       clear n0_ n1_ n2_ n3_ n4_ n5_ n6_
       clear ho hb hg hat
       obtain ⟨Ao63, co63, eo63⟩ := Kd.R_slice HO351.out
       (first | subst eo63 | (injection eo63 with f1_ f2_ f3_; have f4_ := f1_.symm; have f5_ := f3_.symm; clear f1_ f2_ f3_; subst f4_; subst f5_))
       refine hK.out _ _ ⟨(blk_cell BK321.out 0).trans rfl, (blk_cell BK321.out 1).trans rfl, (blk_cell BK321.out 2).trans rfl, (blk_cell BK339.out 0).trans rfl, (blk_cell BK339.out 1).trans rfl, (blk_cell BK339.out 2).trans rfl, (blk_cell BK339.out 3).trans rfl, (blk_cell BK339.out 4).trans rfl, (blk_cell BK339.out 5).trans rfl, (blk_cell BK339.out 6).trans rfl, (blk_cell BK339.out 7).trans rfl, (blk_cell BK339.out 8).trans rfl, (blk_cell BK339.out 9).trans rfl, (blk_cell BK339.out 10).trans rfl, (blk_cell BK339.out 11).trans rfl⟩ (fun hHeld => ?_)
       clear hK K
       refine norm_ (a' := ?_) ?_ ?_
       rotate_left
       ·show Act.put _ (some 42) _ = _
        simp only [Act.put, List.setIfInBounds_toArray, List.set_cons_zero, List.set_cons_succ, i64_w, i32_w]
        rfl
       refine pure_ (i := 12) (N := some 43) (v := ?_) (a' := ?_) #[true, true, true, true, true, true, true, true, true, true, true, true, true, true, true, false, false, false] rfl rfl (any_of HT_.out (by kernel_rfl)) (fun _ _ _ h => h) (Or.inl ⟨by rfl, ?_⟩) ?_ ?_
       rotate_left
       ·intro w'
        go_simp
        with_reducible rfl
       rotate_left
       ·simp only [Act.put, List.setIfInBounds_toArray, List.set_cons_zero, List.set_cons_succ, i64_w, i32_w]
        rfl
       refine one_ (i := 15) (N := none) #[true, true, true, true, true, true, true, true, true, true, true, true, true, true, true, true, false, false] rfl rfl (one_of HT_.out (by kernel_rfl)) (by decide) (fun K hK => ?_)
       have hs64 : w61.cell? ⟨gb323, 0, none⟩ = some (.int .i64 0) := (blk_cell BK323.out 0).trans rfl
       have hfs64 := blk_frozen BK323.out 0
       have hns64_0 := NB321_323.out
       have hns64_1 := NB322_323.out
       have hns64_3 := NB339_323.out
       have hms64_0 := NB323_321.out
       have hms64_1 := NB323_322.out
       have hms64_3 := NB323_339.out
       have hs65 : w61.cell? ⟨gb323, 1, none⟩ = some (.int .i64 0) := (blk_cell BK323.out 1).trans rfl
       have hfs65 := blk_frozen BK323.out 1
       have hns65_0 := NB321_323.out
       have hns65_1 := NB322_323.out
       have hns65_3 := NB339_323.out
       have hms65_0 := NB323_321.out
       have hms65_1 := NB323_322.out
       have hms65_3 := NB323_339.out
       have hs66 : w61.cell? ⟨gb323, 2, none⟩ = some (.slice none 0 0) := (blk_cell BK323.out 2).trans rfl
       have hfs66 := blk_frozen BK323.out 2
       have hns66_0 := NB321_323.out
       have hns66_1 := NB322_323.out
       have hns66_3 := NB339_323.out
       have hms66_0 := NB323_321.out
       have hms66_1 := NB323_322.out
       have hms66_3 := NB323_339.out
       refine skip_ (w1 := ?_) (by rfl) rfl ?_ ?_
       rotate_left
       ·go_simp
        rfl
       refine hK.out _ _ ⟨((cell_far (p := ⟨gb323, _, none⟩) NB321_323.out _).trans (((cell_far (p := ⟨gb323, _, none⟩) NB321_323.out _).trans (((cell_far (p := ⟨gb323, _, none⟩) NB321_323.out _).trans (hHeld.1)))))), ((cell_far (p := ⟨gb323, _, none⟩) NB321_323.out _).trans (((cell_far (p := ⟨gb323, _, none⟩) NB321_323.out _).trans (((cell_far (p := ⟨gb323, _, none⟩) NB321_323.out _).trans (hHeld.2.1)))))), ((cell_far (p := ⟨gb323, _, none⟩) NB321_323.out _).trans (((cell_far (p := ⟨gb323, _, none⟩) NB321_323.out _).trans (((cell_far (p := ⟨gb323, _, none⟩) NB321_323.out _).trans (hHeld.2.2.1)))))), ((cell_far (p := ⟨gb323, _, none⟩) NB339_323.out _).trans (((cell_far (p := ⟨gb323, _, none⟩) NB339_323.out _).trans (((cell_far (p := ⟨gb323, _, none⟩) NB339_323.out _).trans (hHeld.2.2.2.1)))))), ((cell_far (p := ⟨gb323, _, none⟩) NB339_323.out _).trans (((cell_far (p := ⟨gb323, _, none⟩) NB339_323.out _).trans (((cell_far (p := ⟨gb323, _, none⟩) NB339_323.out _).trans (hHeld.2.2.2.2.1)))))), ((cell_far (p := ⟨gb323, _, none⟩) NB339_323.out _).trans (((cell_far (p := ⟨gb323, _, none⟩) NB339_323.out _).trans (((cell_far (p := ⟨gb323, _, none⟩) NB339_323.out _).trans (hHeld.2.2.2.2.2.1)))))), ((cell_far (p := ⟨gb323, _, none⟩) NB339_323.out _).trans (((cell_far (p := ⟨gb323, _, none⟩) NB339_323.out _).trans (((cell_far (p := ⟨gb323, _, none⟩) NB339_323.out _).trans (hHeld.2.2.2.2.2.2.1)))))), ((cell_far (p := ⟨gb323, _, none⟩) NB339_323.out _).trans (((cell_far (p := ⟨gb323, _, none⟩) NB339_323.out _).trans (((cell_far (p := ⟨gb323, _, none⟩) NB339_323.out _).trans (hHeld.2.2.2.2.2.2.2.1)))))), ((cell_far (p := ⟨gb323, _, none⟩) NB339_323.out _).trans (((cell_far (p := ⟨gb323, _, none⟩) NB339_323.out _).trans (((cell_far (p := ⟨gb323, _, none⟩) NB339_323.out _).trans (hHeld.2.2.2.2.2.2.2.2.1)))))), ((cell_far (p := ⟨gb323, _, none⟩) NB339_323.out _).trans (((cell_far (p := ⟨gb323, _, none⟩) NB339_323.out _).trans (((cell_far (p := ⟨gb323, _, none⟩) NB339_323.out _).trans (hHeld.2.2.2.2.2.2.2.2.2.1)))))), ((cell_far (p := ⟨gb323, _, none⟩) NB339_323.out _).trans (((cell_far (p := ⟨gb323, _, none⟩) NB339_323.out _).trans (((cell_far (p := ⟨gb323, _, none⟩) NB339_323.out _).trans (hHeld.2.2.2.2.2.2.2.2.2.2.1)))))), ((cell_far (p := ⟨gb323, _, none⟩) NB339_323.out _).trans (((cell_far (p := ⟨gb323, _, none⟩) NB339_323.out _).trans (((cell_far (p := ⟨gb323, _, none⟩) NB339_323.out _).trans (hHeld.2.2.2.2.2.2.2.2.2.2.2.1)))))), ((cell_far (p := ⟨gb323, _, none⟩) NB339_323.out _).trans (((cell_far (p := ⟨gb323, _, none⟩) NB339_323.out _).trans (((cell_far (p := ⟨gb323, _, none⟩) NB339_323.out _).trans (hHeld.2.2.2.2.2.2.2.2.2.2.2.2.1)))))), ((cell_far (p := ⟨gb323, _, none⟩) NB339_323.out _).trans (((cell_far (p := ⟨gb323, _, none⟩) NB339_323.out _).trans (((cell_far (p := ⟨gb323, _, none⟩) NB339_323.out _).trans (hHeld.2.2.2.2.2.2.2.2.2.2.2.2.2.1)))))), ((cell_far (p := ⟨gb323, _, none⟩) NB339_323.out _).trans (((cell_far (p := ⟨gb323, _, none⟩) NB339_323.out _).trans (((cell_far (p := ⟨gb323, _, none⟩) NB339_323.out _).trans (hHeld.2.2.2.2.2.2.2.2.2.2.2.2.2.2))))))⟩ (fun hHeld => ?_)
       clear hK K
       refine pure_ (i := 16) (N := some 5) (v := ?_) (a' := ?_) #[true, true, true, true, true, true, true, true, true, true, true, true, true, true, true, true, true, false] rfl rfl (any_of HT_.out (by kernel_rfl)) (fun _ _ _ h => h) (Or.inl ⟨by rfl, ?_⟩) ?_ ?_
       rotate_left
       ·intro w'
        go_simp
        with_reducible rfl
       rotate_left
       ·simp only [Act.put, List.setIfInBounds_toArray, List.set_cons_zero, List.set_cons_succ, i64_w, i32_w]
        rfl
       refine pure_ (i := 17) (N := some 6) (v := ?_) (a' := ?_) #[true, true, true, true, true, true, true, true, true, true, true, true, true, true, true, true, true, true] rfl rfl (any_of HT_.out (by kernel_rfl)) (fun _ _ _ h => h) (Or.inl ⟨by rfl, ?_⟩) ?_ ?_
       rotate_left
       ·intro w'
        go_simp
        with_reducible rfl
       rotate_left
       ·simp only [Act.put, List.setIfInBounds_toArray, List.set_cons_zero, List.set_cons_succ, i64_w, i32_w]
        rfl
       refine done_ (done_of HT_.out (by kernel_rfl)) ?_
       try go_wp2
       refine bodyPost_ret (results_ctt rfl _ _ gb323 24 #[.int .i64 a0_0, .int .i64 (wrap64 (a0_1 + 1)), .slice Ao63 y349.length co63] (0, 0) _ rfl (by refine stq ?_; refine blk_put (cs := #[.int .i64 a0_0, .int .i64 (wrap64 (a0_1 + 1)), .slice none 0 0]) ?_ 2 _ rfl; refine stq ?_; refine blk_put (cs := #[.int .i64 a0_0, .int .i64 0, .slice none 0 0]) ?_ 1 _ rfl; refine stq ?_; refine blk_put (cs := #[.int .i64 0, .int .i64 0, .slice none 0 0]) ?_ 0 _ rfl; refine stq ?_; exact BK323.out) Try.underlying24 rfl (by kernel_rfl)) rfl ?_
       exact ⟨_, by first | rfl | (simp [errW_none, errW_some] <;> rfl) | (simp [*, errW_none, errW_some] <;> rfl), by (with_reducible repeat (first | apply Kd.R_alloc | apply Kd.R_drewN | apply Kd.R_drew)); exact Kd.R_mono (Kd.R_far (p := ⟨gb323, 2, none⟩) (Kd.R_far (p := ⟨gb323, 1, none⟩) (Kd.R_far (p := ⟨gb323, 0, none⟩) (Kd.R_types HO351.out BK323.out (by decide)) (fun _ hk => hk.2) (.int .i64 a0_0)) (fun _ hk => hk.2) (.int .i64 (wrap64 (a0_1 + 1)))) (fun _ hk => hk.2) (.slice Ao63 y349.length co63)) (fun _ hk => trivial), by repeat (first | (with_reducible first | exact HB.out | apply below_alloc | apply pw_below_drewN | apply below_drew1 | refine below_set ?_ GE321.out | refine below_set ?_ GE322.out | refine below_set ?_ GE323.out | refine below_set ?_ GE339.out) | exact HB.out)⟩
      ·rw [if_neg c34] at H
       exact absurd H (by simp)
     ·rw [if_neg c33] at H
      exact absurd H (by simp)
    ·rw [if_neg c32] at H
     have c32b0 : (t338 == 0) = false := beq_eq_false_iff_ne.mpr c32
     have c32b1 : (t338 != 0) = true := bne_iff_ne.mpr c32
     simp only [Option.some.injEq, Prod.mk.injEq] at H
     obtain ⟨rfl, rfl, rfl, rfl, rfl⟩ := H
     go_enter Try.func9, Try.ntmps9
     go_wp2_with (first | ((with_reducible refine gate_dst (N := 2) rfl ?_); refine box_event ?hg (N := 2) ?hd (cs := #[.int .i64 a0_0, .int .i64 a0_1, .slice A0_2 l0_2.length c0_2]) (t := 24) ?hr ?_; (case hd => rfl); (case hg => rfl); (case hr => first | (go_simp; done) | (go_simp; rfl)); intro gb321 hg w67 hbox hb; have ⟨n0_, n2_⟩ := pkB (stb HB) hb hg; have n3_ := n2_; have n1_ := Aside0.mk (hbox); clear HB; have HB := n0_; have BK321 := n1_; have GW321 := n2_; have GE321 := n3_; clear n0_ n1_ n2_ n3_; clear hb hbox hg) | ((with_reducible refine gate_dst (N := 3) rfl ?_); refine box_event ?hg (N := 3) ?hd (cs := #[.int .u8 a1_0, .int .u8 a1_1, .int .u8 a1_2, .int .u32 a1_3, .int .u64 a1_4]) (t := 29) ?hr ?_; (case hd => rfl); (case hg => rfl); (case hr => first | (go_simp; done) | (go_simp; rfl)); intro gb322 hg w68 hbox hb; have ⟨n0_, n5_, n6_⟩ := pkK (stp BK321) hb hg; have ⟨n1_, n3_⟩ := pkB (w := w) (by repeat (first | (with_reducible first | exact HB.out | apply below_alloc | apply pw_below_drewN | apply below_drew1 | refine below_set ?_ GE321.out) | exact HB.out)) hb hg; have n4_ := n3_; have n2_ := Aside0.mk (hbox); clear BK321; clear HB; have BK321 := n0_; have HB := n1_; have BK322 := n2_; have GW322 := n3_; have GE322 := n4_; have NB321_322 := n5_; have NB322_321 := n6_; clear n0_ n1_ n2_ n3_ n4_ n5_ n6_; clear hb hbox hg) | ((with_reducible refine gate_dst (N := 4) rfl ?_); refine box_event ?hg (N := 4) ?hd (cs := #[.int .i64 0, .int .i64 0, .slice none 0 0]) (t := 24) ?hr ?_; (case hd => rfl); (case hg => rfl); (case hr => first | (go_simp; done) | (go_simp; rfl)); intro gb323 hg w69 hbox hb; have ⟨n0_, n6_, n7_⟩ := pkK (stp BK321) hb hg; have ⟨n1_, n8_, n9_⟩ := pkK (stp BK322) hb hg; have ⟨n2_, n4_⟩ := pkB (w := w) (by repeat (first | (with_reducible first | exact HB.out | apply below_alloc | apply pw_below_drewN | apply below_drew1 | refine below_set ?_ GE321.out | refine below_set ?_ GE322.out) | exact HB.out)) hb hg; have n5_ := n4_; have n3_ := Aside0.mk (hbox); clear BK321; clear BK322; clear HB; have BK321 := n0_; have BK322 := n1_; have HB := n2_; have BK323 := n3_; have GW323 := n4_; have GE323 := n5_; have NB321_323 := n6_; have NB323_321 := n7_; have NB322_323 := n8_; have NB323_322 := n9_; clear n0_ n1_ n2_ n3_ n4_ n5_ n6_ n7_ n8_ n9_; clear hb hbox hg; have hnb70 := NB321_322.out; have hnc70 := NB322_321.out; have hnb71 := NB321_323.out; have hnc71 := NB323_321.out; have hcz72_0 : w69.cell? ⟨gb321, 0, none⟩ = some (.int .i64 a0_0) := (blk_cell BK321.out 0).trans rfl; have hcz72_1 : w69.cell? ⟨gb321, 1, none⟩ = some (.int .i64 a0_1) := (blk_cell BK321.out 1).trans rfl; have hcz72_2 : w69.cell? ⟨gb321, 2, none⟩ = some (.slice A0_2 l0_2.length c0_2) := (blk_cell BK321.out 2).trans rfl; have hfz72_0 := blk_frozen BK321.out 0; have hfz72_1 := blk_frozen BK321.out 1; have hfz72_2 := blk_frozen BK321.out 2) | ((with_reducible refine gate_callee (f := 21) rfl ?_); refine goesL_ (some 10) rfl rfl Try.func21 (by kernel_rfl) rfl #[.agg #[.int .i64 a0_0, .int .i64 a0_1, .slice A0_2 l0_2.length c0_2]] rfl (by (try simp only [List.map_toArray, List.map_cons, List.map_nil]); first | done | rfl | (simp only [List.length_drop, List.length_take]; rfl)) ?_; (with_reducible refine (rampartref18_Check.calls k a0_0 a0_1 _ _ l0_2 t324 _ ?side1 ?side2 A3.out).mono ?_); (case side1 => repeat (first | exact (Kd.C_below HR0_2.out HB.out) | (with_reducible refine Kd.C_alloc ?_ _) | (with_reducible refine Kd.C_drewN ?_ _) | (with_reducible refine Kd.C_drew ?_))); (case side2 => exact HC0_2.out); rintro e w73 ⟨rfl, hb⟩; refine ⟨_, rfl, ?_⟩; have n0_ := Aside0.mk (blk_below (stp BK321) hb); have n1_ := Aside0.mk (blk_below (stp BK322) hb); have n2_ := Aside0.mk (blk_below (stp BK323) hb); have n3_ := Aside0.mk (below_step (by repeat (first | (with_reducible first | exact HB.out | apply below_alloc | apply pw_below_drewN | apply below_drew1 | refine below_set ?_ GE321.out | refine below_set ?_ GE322.out | refine below_set ?_ GE323.out) | exact HB.out)) hb); clear BK321; clear BK322; clear BK323; clear HB; have BK321 := n0_; have BK322 := n1_; have BK323 := n2_; have HB := n3_; clear n0_ n1_ n2_ n3_; (try clear hb); (try clear hb2); (try clear hk); (try clear hi); have hcz74_0 : w73.cell? ⟨gb321, 0, none⟩ = some (.int .i64 a0_0) := (blk_cell BK321.out 0).trans rfl; have hcz74_1 : w73.cell? ⟨gb321, 1, none⟩ = some (.int .i64 a0_1) := (blk_cell BK321.out 1).trans rfl; have hcz74_2 : w73.cell? ⟨gb321, 2, none⟩ = some (.slice A0_2 l0_2.length c0_2) := (blk_cell BK321.out 2).trans rfl; have hfz74_0 := blk_frozen BK321.out 0; have hfz74_1 := blk_frozen BK321.out 1; have hfz74_2 := blk_frozen BK321.out 2) | ((with_reducible refine gate_callee (f := 12) rfl ?_); refine goesL_ (some 14) rfl rfl Try.func12 (by kernel_rfl) rfl #[.agg #[.int .i64 a0_0, .int .i64 a0_1, .slice A0_2 l0_2.length c0_2]] rfl (by (try simp only [List.map_toArray, List.map_cons, List.map_nil]); first | done | rfl | (simp only [List.length_drop, List.length_take]; rfl)) ?_; (with_reducible refine (rampartref18_Full.calls k a0_0 a0_1 _ _ l0_2 false _ ?side1 ?side2 A5.out).mono ?_); (case side1 => repeat (first | exact (Kd.C_below HR0_2.out HB.out) | (with_reducible refine Kd.C_alloc ?_ _) | (with_reducible refine Kd.C_drewN ?_ _) | (with_reducible refine Kd.C_drew ?_))); (case side2 => exact HC0_2.out); rintro e w75 ⟨rfl, hb⟩; refine ⟨_, rfl, ?_⟩; have n0_ := Aside0.mk (blk_below (stp BK321) hb); have n1_ := Aside0.mk (blk_below (stp BK322) hb); have n2_ := Aside0.mk (blk_below (stp BK323) hb); have n3_ := Aside0.mk (below_step (by repeat (first | (with_reducible first | exact HB.out | apply below_alloc | apply pw_below_drewN | apply below_drew1 | refine below_set ?_ GE321.out | refine below_set ?_ GE322.out | refine below_set ?_ GE323.out) | exact HB.out)) hb); clear BK321; clear BK322; clear BK323; clear HB; have BK321 := n0_; have BK322 := n1_; have BK323 := n2_; have HB := n3_; clear n0_ n1_ n2_ n3_; (try clear hb); (try clear hb2); (try clear hk); (try clear hi); have hcz76_0 : w75.cell? ⟨gb321, 0, none⟩ = some (.int .i64 a0_0) := (blk_cell BK321.out 0).trans rfl; have hcz76_1 : w75.cell? ⟨gb321, 1, none⟩ = some (.int .i64 a0_1) := (blk_cell BK321.out 1).trans rfl; have hcz76_2 : w75.cell? ⟨gb321, 2, none⟩ = some (.slice A0_2 l0_2.length c0_2) := (blk_cell BK321.out 2).trans rfl; have hfz76_0 := blk_frozen BK321.out 0; have hfz76_1 := blk_frozen BK321.out 1; have hfz76_2 := blk_frozen BK321.out 2; have hnb77 := NB322_323.out; have hnc77 := NB323_322.out; have hcz78_0 : w75.cell? ⟨gb322, 0, none⟩ = some (.int .u8 a1_0) := (blk_cell BK322.out 0).trans rfl; have hcz78_1 : w75.cell? ⟨gb322, 1, none⟩ = some (.int .u8 a1_1) := (blk_cell BK322.out 1).trans rfl; have hcz78_2 : w75.cell? ⟨gb322, 2, none⟩ = some (.int .u8 a1_2) := (blk_cell BK322.out 2).trans rfl; have hcz78_3 : w75.cell? ⟨gb322, 3, none⟩ = some (.int .u32 a1_3) := (blk_cell BK322.out 3).trans rfl; have hcz78_4 : w75.cell? ⟨gb322, 4, none⟩ = some (.int .u64 a1_4) := (blk_cell BK322.out 4).trans rfl; have hfz78_0 := blk_frozen BK322.out 0; have hfz78_1 := blk_frozen BK322.out 1; have hfz78_2 := blk_frozen BK322.out 2; have hfz78_3 := blk_frozen BK322.out 3; have hfz78_4 := blk_frozen BK322.out 4) | ((with_reducible refine gate_callee (f := 27) rfl ?_); refine goesL_ (some 24) rfl rfl Try.func27 (by kernel_rfl) rfl #[.int .i64 a0_1, .agg #[.int .u8 a1_0, .int .u8 a1_1, .int .u8 a1_2, .int .u32 a1_3, .int .u64 a1_4]] rfl (by (try simp only [List.map_toArray, List.map_cons, List.map_nil]); first | done | rfl | (simp only [List.length_drop, List.length_take]; rfl)) ?_; (with_reducible refine (rampartref17_New.calls a0_1 a1_0 a1_1 a1_2 a1_3 a1_4 t326 t327 t328 t329 t330 t331 t332 t333 t334 t335 t336 t337 t338 _ A31.out).mono ?_); rintro e w79 ⟨rfl, hb⟩; refine ⟨_, rfl, ?_⟩; have n0_ := Aside0.mk (blk_below (stp BK321) hb); have n1_ := Aside0.mk (blk_below (stp BK322) hb); have n2_ := Aside0.mk (blk_below (stp BK323) hb); have n3_ := Aside0.mk (below_step (by repeat (first | (with_reducible first | exact HB.out | apply below_alloc | apply pw_below_drewN | apply below_drew1 | refine below_set ?_ GE321.out | refine below_set ?_ GE322.out | refine below_set ?_ GE323.out) | exact HB.out)) hb); clear BK321; clear BK322; clear BK323; clear HB; have BK321 := n0_; have BK322 := n1_; have BK323 := n2_; have HB := n3_; clear n0_ n1_ n2_ n3_; (try clear hb); (try clear hb2); (try clear hk); (try clear hi)) | ((with_reducible refine gate_dst (N := 7) rfl ?_); refine box_event ?hg (N := 7) ?hd (cs := #[.int .i64 0, .int .u8 0, .int .u8 0, .int .u8 0, .int .u32 0, .int .u64 0, .int .i64 0, .int .i64 0, .int .i64 0, .int .u64 0, .int .u64 0, .int .u64 0]) (t := 42) ?hr ?_; (case hd => rfl); (case hg => rfl); (case hr => first | (go_simp; done) | (go_simp; rfl)); intro gb339 hg w80 hbox hb; have ⟨n0_, n7_, n8_⟩ := pkK (stp BK321) hb hg; have ⟨n1_, n9_, n10_⟩ := pkK (stp BK322) hb hg; have ⟨n2_, n11_, n12_⟩ := pkK (stp BK323) hb hg; have ⟨n3_, n5_⟩ := pkB (w := w) (by repeat (first | (with_reducible first | exact HB.out | apply below_alloc | apply pw_below_drewN | apply below_drew1 | refine below_set ?_ GE321.out | refine below_set ?_ GE322.out | refine below_set ?_ GE323.out) | exact HB.out)) hb hg; have n6_ := n5_; have n4_ := Aside0.mk (hbox); clear BK321; clear BK322; clear BK323; clear HB; have BK321 := n0_; have BK322 := n1_; have BK323 := n2_; have HB := n3_; have BK339 := n4_; have GW339 := n5_; have GE339 := n6_; have NB321_339 := n7_; have NB339_321 := n8_; have NB322_339 := n9_; have NB339_322 := n10_; have NB323_339 := n11_; have NB339_323 := n12_; clear n0_ n1_ n2_ n3_ n4_ n5_ n6_ n7_ n8_ n9_ n10_ n11_ n12_; clear hb hbox hg; have hnb81 := NB339_321.out; have hnc81 := NB321_339.out; have hnb82 := NB339_322.out; have hnc82 := NB322_339.out; have hnb83 := NB339_323.out; have hnc83 := NB323_339.out; have hcz84_0 : w80.cell? ⟨gb339, 0, none⟩ = some (.int .i64 0) := (blk_cell BK339.out 0).trans rfl; have hcz84_1 : w80.cell? ⟨gb339, 1, none⟩ = some (.int .u8 0) := (blk_cell BK339.out 1).trans rfl; have hcz84_2 : w80.cell? ⟨gb339, 2, none⟩ = some (.int .u8 0) := (blk_cell BK339.out 2).trans rfl; have hcz84_3 : w80.cell? ⟨gb339, 3, none⟩ = some (.int .u8 0) := (blk_cell BK339.out 3).trans rfl; have hcz84_4 : w80.cell? ⟨gb339, 4, none⟩ = some (.int .u32 0) := (blk_cell BK339.out 4).trans rfl; have hcz84_5 : w80.cell? ⟨gb339, 5, none⟩ = some (.int .u64 0) := (blk_cell BK339.out 5).trans rfl; have hcz84_6 : w80.cell? ⟨gb339, 6, none⟩ = some (.int .i64 0) := (blk_cell BK339.out 6).trans rfl; have hcz84_7 : w80.cell? ⟨gb339, 7, none⟩ = some (.int .i64 0) := (blk_cell BK339.out 7).trans rfl; have hcz84_8 : w80.cell? ⟨gb339, 8, none⟩ = some (.int .i64 0) := (blk_cell BK339.out 8).trans rfl; have hcz84_9 : w80.cell? ⟨gb339, 9, none⟩ = some (.int .u64 0) := (blk_cell BK339.out 9).trans rfl; have hcz84_10 : w80.cell? ⟨gb339, 10, none⟩ = some (.int .u64 0) := (blk_cell BK339.out 10).trans rfl; have hcz84_11 : w80.cell? ⟨gb339, 11, none⟩ = some (.int .u64 0) := (blk_cell BK339.out 11).trans rfl; have hfz84_0 := blk_frozen BK339.out 0; have hfz84_1 := blk_frozen BK339.out 1; have hfz84_2 := blk_frozen BK339.out 2; have hfz84_3 := blk_frozen BK339.out 3; have hfz84_4 := blk_frozen BK339.out 4; have hfz84_5 := blk_frozen BK339.out 5; have hfz84_6 := blk_frozen BK339.out 6; have hfz84_7 := blk_frozen BK339.out 7; have hfz84_8 := blk_frozen BK339.out 8; have hfz84_9 := blk_frozen BK339.out 9; have hfz84_10 := blk_frozen BK339.out 10; have hfz84_11 := blk_frozen BK339.out 11; have hcz85_0 : w80.cell? ⟨gb323, 0, none⟩ = some (.int .i64 0) := (blk_cell BK323.out 0).trans rfl; have hcz85_1 : w80.cell? ⟨gb323, 1, none⟩ = some (.int .i64 0) := (blk_cell BK323.out 1).trans rfl; have hcz85_2 : w80.cell? ⟨gb323, 2, none⟩ = some (.slice none 0 0) := (blk_cell BK323.out 2).trans rfl; have hfz85_0 := blk_frozen BK323.out 0; have hfz85_1 := blk_frozen BK323.out 1; have hfz85_2 := blk_frozen BK323.out 2))
     refine bodyPost_ret (results_ctt rfl _ _ gb323 24 #[.int .i64 0, .int .i64 0, .slice none 0 0] (0, 0) _ rfl (by refine stq ?_; refine blk_put (cs := #[.int .i64 0, .int .i64 0, .slice none 0 0]) ?_ 2 _ rfl; refine stq ?_; refine blk_put (cs := #[.int .i64 0, .int .i64 0, .slice none 0 0]) ?_ 1 _ rfl; refine stq ?_; refine blk_put (cs := #[.int .i64 0, .int .i64 0, .slice none 0 0]) ?_ 0 _ rfl; refine stq ?_; refine blk_far ?_ NB323_339.out _; refine stq ?_; refine blk_far ?_ NB323_339.out _; refine stq ?_; refine blk_far ?_ NB323_339.out _; refine stq ?_; refine blk_far ?_ NB323_339.out _; refine stq ?_; refine blk_far ?_ NB323_339.out _; refine stq ?_; refine blk_far ?_ NB323_339.out _; refine stq ?_; refine blk_far ?_ NB323_339.out _; refine stq ?_; refine blk_far ?_ NB323_339.out _; refine stq ?_; refine blk_far ?_ NB323_339.out _; refine stq ?_; refine blk_far ?_ NB323_339.out _; refine stq ?_; refine blk_far ?_ NB323_339.out _; refine stq ?_; refine blk_far ?_ NB323_339.out _; refine stq ?_; exact BK323.out) Try.underlying24 rfl (by kernel_rfl)) rfl ?_
     exact ⟨_, by first | rfl | (simp [errW_none, errW_some] <;> rfl) | (simp [*, errW_none, errW_some] <;> rfl), by first | exact Kd.R_nil _ _ _ _ _ | exact Kd.N_nil _ _ _ _ _ | exact Kd.V_nil _ _ _ _ _ | exact Kd.Q_nil _ _ _ _ _ | exact Kd.S_nil _ _ _ _ _, by repeat (first | (with_reducible first | exact HB.out | apply below_alloc | apply pw_below_drewN | apply below_drew1 | refine below_set ?_ GE321.out | refine below_set ?_ GE322.out | refine below_set ?_ GE323.out | refine below_set ?_ GE339.out) | exact HB.out)⟩
 ·rw [if_neg c4] at H
  have c4b0 : (t324 == 0) = false := beq_eq_false_iff_ne.mpr c4
  have c4b1 : (t324 != 0) = true := bne_iff_ne.mpr c4
  simp only [Option.some.injEq, Prod.mk.injEq] at H
  obtain ⟨rfl, rfl, rfl, rfl, rfl⟩ := H
  go_enter Try.func9, Try.ntmps9
  go_wp2_with (first | ((with_reducible refine gate_dst (N := 2) rfl ?_); refine box_event ?hg (N := 2) ?hd (cs := #[.int .i64 a0_0, .int .i64 a0_1, .slice A0_2 l0_2.length c0_2]) (t := 24) ?hr ?_; (case hd => rfl); (case hg => rfl); (case hr => first | (go_simp; done) | (go_simp; rfl)); intro gb321 hg w86 hbox hb; have ⟨n0_, n2_⟩ := pkB (stb HB) hb hg; have n3_ := n2_; have n1_ := Aside0.mk (hbox); clear HB; have HB := n0_; have BK321 := n1_; have GW321 := n2_; have GE321 := n3_; clear n0_ n1_ n2_ n3_; clear hb hbox hg) | ((with_reducible refine gate_dst (N := 3) rfl ?_); refine box_event ?hg (N := 3) ?hd (cs := #[.int .u8 a1_0, .int .u8 a1_1, .int .u8 a1_2, .int .u32 a1_3, .int .u64 a1_4]) (t := 29) ?hr ?_; (case hd => rfl); (case hg => rfl); (case hr => first | (go_simp; done) | (go_simp; rfl)); intro gb322 hg w87 hbox hb; have ⟨n0_, n5_, n6_⟩ := pkK (stp BK321) hb hg; have ⟨n1_, n3_⟩ := pkB (w := w) (by repeat (first | (with_reducible first | exact HB.out | apply below_alloc | apply pw_below_drewN | apply below_drew1 | refine below_set ?_ GE321.out) | exact HB.out)) hb hg; have n4_ := n3_; have n2_ := Aside0.mk (hbox); clear BK321; clear HB; have BK321 := n0_; have HB := n1_; have BK322 := n2_; have GW322 := n3_; have GE322 := n4_; have NB321_322 := n5_; have NB322_321 := n6_; clear n0_ n1_ n2_ n3_ n4_ n5_ n6_; clear hb hbox hg) | ((with_reducible refine gate_dst (N := 4) rfl ?_); refine box_event ?hg (N := 4) ?hd (cs := #[.int .i64 0, .int .i64 0, .slice none 0 0]) (t := 24) ?hr ?_; (case hd => rfl); (case hg => rfl); (case hr => first | (go_simp; done) | (go_simp; rfl)); intro gb323 hg w88 hbox hb; have ⟨n0_, n6_, n7_⟩ := pkK (stp BK321) hb hg; have ⟨n1_, n8_, n9_⟩ := pkK (stp BK322) hb hg; have ⟨n2_, n4_⟩ := pkB (w := w) (by repeat (first | (with_reducible first | exact HB.out | apply below_alloc | apply pw_below_drewN | apply below_drew1 | refine below_set ?_ GE321.out | refine below_set ?_ GE322.out) | exact HB.out)) hb hg; have n5_ := n4_; have n3_ := Aside0.mk (hbox); clear BK321; clear BK322; clear HB; have BK321 := n0_; have BK322 := n1_; have HB := n2_; have BK323 := n3_; have GW323 := n4_; have GE323 := n5_; have NB321_323 := n6_; have NB323_321 := n7_; have NB322_323 := n8_; have NB323_322 := n9_; clear n0_ n1_ n2_ n3_ n4_ n5_ n6_ n7_ n8_ n9_; clear hb hbox hg; have hnb89 := NB321_322.out; have hnc89 := NB322_321.out; have hnb90 := NB321_323.out; have hnc90 := NB323_321.out; have hcz91_0 : w88.cell? ⟨gb321, 0, none⟩ = some (.int .i64 a0_0) := (blk_cell BK321.out 0).trans rfl; have hcz91_1 : w88.cell? ⟨gb321, 1, none⟩ = some (.int .i64 a0_1) := (blk_cell BK321.out 1).trans rfl; have hcz91_2 : w88.cell? ⟨gb321, 2, none⟩ = some (.slice A0_2 l0_2.length c0_2) := (blk_cell BK321.out 2).trans rfl; have hfz91_0 := blk_frozen BK321.out 0; have hfz91_1 := blk_frozen BK321.out 1; have hfz91_2 := blk_frozen BK321.out 2) | ((with_reducible refine gate_callee (f := 21) rfl ?_); refine goesL_ (some 10) rfl rfl Try.func21 (by kernel_rfl) rfl #[.agg #[.int .i64 a0_0, .int .i64 a0_1, .slice A0_2 l0_2.length c0_2]] rfl (by (try simp only [List.map_toArray, List.map_cons, List.map_nil]); first | done | rfl | (simp only [List.length_drop, List.length_take]; rfl)) ?_; (with_reducible refine (rampartref18_Check.calls k a0_0 a0_1 _ _ l0_2 t324 _ ?side1 ?side2 A3.out).mono ?_); (case side1 => repeat (first | exact (Kd.C_below HR0_2.out HB.out) | (with_reducible refine Kd.C_alloc ?_ _) | (with_reducible refine Kd.C_drewN ?_ _) | (with_reducible refine Kd.C_drew ?_))); (case side2 => exact HC0_2.out); rintro e w92 ⟨rfl, hb⟩; refine ⟨_, rfl, ?_⟩; have n0_ := Aside0.mk (blk_below (stp BK321) hb); have n1_ := Aside0.mk (blk_below (stp BK322) hb); have n2_ := Aside0.mk (blk_below (stp BK323) hb); have n3_ := Aside0.mk (below_step (by repeat (first | (with_reducible first | exact HB.out | apply below_alloc | apply pw_below_drewN | apply below_drew1 | refine below_set ?_ GE321.out | refine below_set ?_ GE322.out | refine below_set ?_ GE323.out) | exact HB.out)) hb); clear BK321; clear BK322; clear BK323; clear HB; have BK321 := n0_; have BK322 := n1_; have BK323 := n2_; have HB := n3_; clear n0_ n1_ n2_ n3_; (try clear hb); (try clear hb2); (try clear hk); (try clear hi); have hnb93 := NB323_322.out; have hnc93 := NB322_323.out; have hcz94_0 : w92.cell? ⟨gb323, 0, none⟩ = some (.int .i64 0) := (blk_cell BK323.out 0).trans rfl; have hcz94_1 : w92.cell? ⟨gb323, 1, none⟩ = some (.int .i64 0) := (blk_cell BK323.out 1).trans rfl; have hcz94_2 : w92.cell? ⟨gb323, 2, none⟩ = some (.slice none 0 0) := (blk_cell BK323.out 2).trans rfl; have hfz94_0 := blk_frozen BK323.out 0; have hfz94_1 := blk_frozen BK323.out 1; have hfz94_2 := blk_frozen BK323.out 2))
  refine bodyPost_ret (results_ctt rfl _ _ gb323 24 #[.int .i64 0, .int .i64 0, .slice none 0 0] (0, 0) _ rfl (by refine stq ?_; refine blk_put (cs := #[.int .i64 0, .int .i64 0, .slice none 0 0]) ?_ 2 _ rfl; refine stq ?_; refine blk_put (cs := #[.int .i64 0, .int .i64 0, .slice none 0 0]) ?_ 1 _ rfl; refine stq ?_; refine blk_put (cs := #[.int .i64 0, .int .i64 0, .slice none 0 0]) ?_ 0 _ rfl; refine stq ?_; exact BK323.out) Try.underlying24 rfl (by kernel_rfl)) rfl ?_
  exact ⟨_, by first | rfl | (simp [errW_none, errW_some] <;> rfl) | (simp [*, errW_none, errW_some] <;> rfl), by first | exact Kd.R_nil _ _ _ _ _ | exact Kd.N_nil _ _ _ _ _ | exact Kd.V_nil _ _ _ _ _ | exact Kd.Q_nil _ _ _ _ _ | exact Kd.S_nil _ _ _ _ _, by repeat (first | (with_reducible first | exact HB.out | apply below_alloc | apply pw_below_drewN | apply below_drew1 | refine below_set ?_ GE321.out | refine below_set ?_ GE322.out | refine below_set ?_ GE323.out) | exact HB.out)⟩

-- NOT PRINTED: function 3 (rampartlaw18_PendAdds)

/-! ### rampartref18_place: function 30 -/
def rampartref18_place.l0 : Nat → Int → Int → Int → Int → List (S42) → Option (Int)
 | 0, _, _, _, _, _ => none
 | k + 1, x1, x5, x355000, x355001, x355002 => if x5 < (x355002.length : Int) then (if 0 ≤ x5 then (if ((rd_T42 x355002 x5).f0) = x1 then (some x5) else (rampartref18_place.l0 k x1 (wrap64 (x5 + 1)) x355000 x355001 x355002)) else (none)) else (some (-1))
def rampartref18_place.f (k : Nat) (a0_0 : Int) (a0_1 : Int) (l0_2 : List (S42)) (a1 : Int) : Option (Int) := rampartref18_place.l0 k a1 0 a0_0 a0_1 l0_2
theorem rampartref18_place.mono_l : ∀ k, (∀ y0 y1 y2 y3 y4, LeO (rampartref18_place.l0 k y0 y1 y2 y3 y4) (rampartref18_place.l0 (k + 1) y0 y1 y2 y3 y4))
 | 0 => fun _ _ _ _ _ r h => by simp [rampartref18_place.l0] at h
 | k + 1 => by
  have ih0 := rampartref18_place.mono_l k
  ·intro y0 y1 y2 y3 y4
   unfold rampartref18_place.l0
   repeat' first
   | (with_reducible exact ih0 _ _ _ _ _)
   | (with_reducible exact LeO.refl _)
   | (with_reducible exact LeO.none _)
   | (with_reducible refine LeO.ite ?_ ?_)
   | (with_reducible refine LeO.bind ?_ (fun _ => ?_))
   | exact ih0 _ _ _ _ _
   | exact LeO.none _
   | refine LeO.ite ?_ ?_
   | refine LeO.bind ?_ (fun _ => ?_)
theorem rampartref18_place.mono : ∀ a0 a1 a2 a3 k, LeO (rampartref18_place.f k a0 a1 a2 a3) (rampartref18_place.f (k + 1) a0 a1 a2 a3) := by
 intro a0 a1 a2 a3 k
 have ih0 := rampartref18_place.mono_l k
 unfold rampartref18_place.f
 repeat' first
   | (with_reducible exact ih0 _ _ _ _ _)
   | (with_reducible exact LeO.refl _)
   | (with_reducible exact LeO.none _)
   | (with_reducible refine LeO.ite ?_ ?_)
   | (with_reducible refine LeO.bind ?_ (fun _ => ?_))
   | exact ih0 _ _ _ _ _
   | exact LeO.none _
   | refine LeO.ite ?_ ?_
   | refine LeO.bind ?_ (fun _ => ?_)
set_option maxHeartbeats 8000000 in
set_option maxRecDepth 100000 in
theorem rampartref18_place.calls (k : Nat) (a0_0 : Int) (a0_1 : Int) (A0_2 : Option Addr) (c0_2 : Nat) (l0_2 : List (S42)) (a1 : Int) (r : Int) (w : World) (hr0_2 : Kd.C k42 w A0_2 l0_2.length l0_2) (hc0_2 : l0_2.length ≤ c0_2) (h : rampartref18_place.f k a0_0 a0_1 l0_2 a1 = some r) :
  Calls Try.prog 30 #[.agg #[.int .i64 a0_0, .int .i64 a0_1, .slice A0_2 l0_2.length c0_2], .int .i64 a1] w fun e w' => e = .returned (.int .i64 r) ∧ Below w.heap.size w w' := by
 have hu24 := Try.underlying24
 have HR0_2 := Aside0.mk hr0_2
 have HC0_2 := Aside0.mk hc0_2
 clear hr0_2 hc0_2
 have HB := Aside0.mk (Below.refl w.heap.size w)
 have H : (rampartref18_place.l0 k a1 0 a0_0 a0_1 l0_2) = some r := h
 clear h
 have H' := Aside0.mk H
 clear H
 go_enter Try.func30, Try.ntmps30
 go_wp2_with (first | ((with_reducible refine gate_dst (N := 2) rfl ?_); refine box_event ?hg (N := 2) ?hd (cs := #[.int .i64 a0_0, .int .i64 a0_1, .slice A0_2 l0_2.length c0_2]) (t := 24) ?hr ?_; (case hd => rfl); (case hg => rfl); (case hr => first | (go_simp; done) | (go_simp; rfl)); intro gb354 hg w3 hbox hb; have ⟨n0_, n2_⟩ := pkB (stb HB) hb hg; have n3_ := n2_; have n1_ := Aside0.mk (hbox); clear HB; have HB := n0_; have BK354 := n1_; have GW354 := n2_; have GE354 := n3_; clear n0_ n1_ n2_ n3_; clear hb hbox hg))
 go_loopg [5] k (fun kq v5 w' => ∃ (x5_1 : Int), v5 = .int .i64 x5_1 ∧ Aside0 (rampartref18_place.l0 kq a1 x5_1 a0_0 a0_1 l0_2 = some r) ∧ Aside0 (kq ≤ k) ∧ Aside0 (w'.heap[gb354]? = some (.cells #[.int .i64 a0_0, .int .i64 a0_1, (.slice A0_2 l0_2.length c0_2)] 24 (0, 0))) ∧ Aside0 (Below w.heap.size w w'))
 case atStart => exact ⟨(0), (by first | rfl | (simp; done) | (simp [*]; done)), H', ⟨Nat.le_refl _⟩, ⟨stp BK354⟩, ⟨by repeat (first | (with_reducible first | exact HB.out | apply below_alloc | apply pw_below_drewN | apply below_drew1 | refine below_set ?_ GE354.out) | exact HB.out)⟩⟩
 case round =>
  clear H'
  try clear p2
  try clear c3
  obtain ⟨x5_1, rfl, HA, HK1, BK354, HB⟩ := hrel
  cases gk with
  | zero => exact absurd HA.out (by simp [rampartref18_place.l0])
  | succ k1 =>
   have H := HA.out
   clear HA
   simp only [rampartref18_place.l0] at H
   by_cases c4 : x5_1 < (l0_2.length : Int)
   ·rw [if_pos c4] at H
    have c4b0 : decide (x5_1 < (l0_2.length : Int)) = true := decide_eq_true c4
    clear c4
    by_cases c5 : 0 ≤ x5_1
    ·rw [if_pos c5] at H
     have c5b0 : decide (0 ≤ x5_1) = true := decide_eq_true c5
     clear c5
     by_cases c6 : ((rd_T42 l0_2 x5_1).f0) = a1
     ·rw [if_pos c6] at H
      have c6b0 : (((rd_T42 l0_2 x5_1).f0) == a1) = true := beq_iff_eq.mpr c6
      have c6b1 : (((rd_T42 l0_2 x5_1).f0) != a1) = false := bne_eq_false_iff_eq.mpr c6
      clear c6
      obtain rfl := Option.some.inj H
      have hcz7_0 : wr.cell? ⟨gb354, 0, none⟩ = some (.int .i64 a0_0) := (blk_cell BK354.out 0).trans rfl
      have hcz7_1 : wr.cell? ⟨gb354, 1, none⟩ = some (.int .i64 a0_1) := (blk_cell BK354.out 1).trans rfl
      have hcz7_2 : wr.cell? ⟨gb354, 2, none⟩ = some (.slice A0_2 l0_2.length c0_2) := (blk_cell BK354.out 2).trans rfl
      have hfz7_0 := blk_frozen BK354.out 0
      have hfz7_1 := blk_frozen BK354.out 1
      have hfz7_2 := blk_frozen BK354.out 2
      have p355 : 0 ≤ (x5_1 : Int) := of_decide_eq_true (by first | (with_reducible assumption) | assumption)
      have q355 : x5_1 < (l0_2.length : Int) := of_decide_eq_true (by first | (with_reducible assumption) | assumption)
      obtain ⟨ad355, e355, hx355_0, hx355_1, hx355_2, hx355_3, hx355_4, hx355_5, hx355_6, hx355_7, hx355_8, hx355_9, hx355_10, hx355_11⟩ := at_T42 HR0_2.out x5_1 p355 q355
      cases e355
      replace hx355_0 := (HB.out.cell (World.block_lt_of_cell? w _ hx355_0)).trans hx355_0
      replace hx355_1 := (HB.out.cell (World.block_lt_of_cell? w _ hx355_1)).trans hx355_1
      replace hx355_2 := (HB.out.cell (World.block_lt_of_cell? w _ hx355_2)).trans hx355_2
      replace hx355_3 := (HB.out.cell (World.block_lt_of_cell? w _ hx355_3)).trans hx355_3
      replace hx355_4 := (HB.out.cell (World.block_lt_of_cell? w _ hx355_4)).trans hx355_4
      replace hx355_5 := (HB.out.cell (World.block_lt_of_cell? w _ hx355_5)).trans hx355_5
      replace hx355_6 := (HB.out.cell (World.block_lt_of_cell? w _ hx355_6)).trans hx355_6
      replace hx355_7 := (HB.out.cell (World.block_lt_of_cell? w _ hx355_7)).trans hx355_7
      replace hx355_8 := (HB.out.cell (World.block_lt_of_cell? w _ hx355_8)).trans hx355_8
      replace hx355_9 := (HB.out.cell (World.block_lt_of_cell? w _ hx355_9)).trans hx355_9
      replace hx355_10 := (HB.out.cell (World.block_lt_of_cell? w _ hx355_10)).trans hx355_10
      replace hx355_11 := (HB.out.cell (World.block_lt_of_cell? w _ hx355_11)).trans hx355_11
      replace p355 := eq_true p355
      replace q355 := eq_true q355
      go_wp2
      go_ret
      exact ⟨by first | rfl | (simp [*, errW_none, errW_some] <;> rfl), by repeat (first | (with_reducible first | exact HB.out | apply below_alloc | apply pw_below_drewN | apply below_drew1 | refine below_set ?_ GE354.out) | exact HB.out)⟩
     ·rw [if_neg c6] at H
      have c6b0 : (((rd_T42 l0_2 x5_1).f0) == a1) = false := beq_eq_false_iff_ne.mpr c6
      have c6b1 : (((rd_T42 l0_2 x5_1).f0) != a1) = true := bne_iff_ne.mpr c6
      have H' := Aside0.mk H
      clear H
      have hcz8_0 : wr.cell? ⟨gb354, 0, none⟩ = some (.int .i64 a0_0) := (blk_cell BK354.out 0).trans rfl
      have hcz8_1 : wr.cell? ⟨gb354, 1, none⟩ = some (.int .i64 a0_1) := (blk_cell BK354.out 1).trans rfl
      have hcz8_2 : wr.cell? ⟨gb354, 2, none⟩ = some (.slice A0_2 l0_2.length c0_2) := (blk_cell BK354.out 2).trans rfl
      have hfz8_0 := blk_frozen BK354.out 0
      have hfz8_1 := blk_frozen BK354.out 1
      have hfz8_2 := blk_frozen BK354.out 2
      have p355 : 0 ≤ (x5_1 : Int) := of_decide_eq_true (by first | (with_reducible assumption) | assumption)
      have q355 : x5_1 < (l0_2.length : Int) := of_decide_eq_true (by first | (with_reducible assumption) | assumption)
      obtain ⟨ad355, e355, hx355_0, hx355_1, hx355_2, hx355_3, hx355_4, hx355_5, hx355_6, hx355_7, hx355_8, hx355_9, hx355_10, hx355_11⟩ := at_T42 HR0_2.out x5_1 p355 q355
      cases e355
      replace hx355_0 := (HB.out.cell (World.block_lt_of_cell? w _ hx355_0)).trans hx355_0
      replace hx355_1 := (HB.out.cell (World.block_lt_of_cell? w _ hx355_1)).trans hx355_1
      replace hx355_2 := (HB.out.cell (World.block_lt_of_cell? w _ hx355_2)).trans hx355_2
      replace hx355_3 := (HB.out.cell (World.block_lt_of_cell? w _ hx355_3)).trans hx355_3
      replace hx355_4 := (HB.out.cell (World.block_lt_of_cell? w _ hx355_4)).trans hx355_4
      replace hx355_5 := (HB.out.cell (World.block_lt_of_cell? w _ hx355_5)).trans hx355_5
      replace hx355_6 := (HB.out.cell (World.block_lt_of_cell? w _ hx355_6)).trans hx355_6
      replace hx355_7 := (HB.out.cell (World.block_lt_of_cell? w _ hx355_7)).trans hx355_7
      replace hx355_8 := (HB.out.cell (World.block_lt_of_cell? w _ hx355_8)).trans hx355_8
      replace hx355_9 := (HB.out.cell (World.block_lt_of_cell? w _ hx355_9)).trans hx355_9
      replace hx355_10 := (HB.out.cell (World.block_lt_of_cell? w _ hx355_10)).trans hx355_10
      replace hx355_11 := (HB.out.cell (World.block_lt_of_cell? w _ hx355_11)).trans hx355_11
      replace p355 := eq_true p355
      replace q355 := eq_true q355
      go_wp2
      go_roundg k1
      case measure => have := HK1.out; omega
      case rel => exact ⟨(wrap64 (x5_1 + 1)), (by first | rfl | (simp; done) | (simp [*]; done)), H', ⟨by have := HK1.out; omega⟩, ⟨stp BK354⟩, ⟨by repeat (first | (with_reducible first | exact HB.out | apply below_alloc | apply pw_below_drewN | apply below_drew1 | refine below_set ?_ GE354.out) | exact HB.out)⟩⟩
    ·rw [if_neg c5] at H
     exact absurd H (by simp)
   ·rw [if_neg c4] at H
    have c4b0 : decide (x5_1 < (l0_2.length : Int)) = false := decide_eq_false c4
    clear c4
    obtain rfl := Option.some.inj H
    have hcz9_0 : wr.cell? ⟨gb354, 0, none⟩ = some (.int .i64 a0_0) := (blk_cell BK354.out 0).trans rfl
    have hcz9_1 : wr.cell? ⟨gb354, 1, none⟩ = some (.int .i64 a0_1) := (blk_cell BK354.out 1).trans rfl
    have hcz9_2 : wr.cell? ⟨gb354, 2, none⟩ = some (.slice A0_2 l0_2.length c0_2) := (blk_cell BK354.out 2).trans rfl
    have hfz9_0 := blk_frozen BK354.out 0
    have hfz9_1 := blk_frozen BK354.out 1
    have hfz9_2 := blk_frozen BK354.out 2
    go_wp2
    go_ret
    exact ⟨by first | rfl | (simp [*, errW_none, errW_some] <;> rfl), by repeat (first | (with_reducible first | exact HB.out | apply below_alloc | apply pw_below_drewN | apply below_drew1 | refine below_set ?_ GE354.out) | exact HB.out)⟩

end Go.Proofs.Ytkkgnmfahhkajaa.Q
