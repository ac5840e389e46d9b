-- Printed by a program of this session (wip/tools: the kit's printer, with functions proved by hand let in).
import Derived.Test.YtkkgnmfahhkajaaQx0
import Derived.Test.YtkkgnmfahhkajaaQx1
import Derived.Test.YtkkgnmfahhkajaaQx9
import Derived.Test.YtkkgnmfahhkajaaQx10
import Derived.Test.YtkkgnmfahhkajaaQx12
namespace Go.Proofs.Ytkkgnmfahhkajaa.Q
open Go.RowKit Go.Proofs.YtkkgnmfahhkajaaW.PrintWords Go.Proofs.YtkkgnmfahhkajaaW.PrintLast Go.Proofs.YtkkgnmfahhkajaaW.PrintMore
attribute [local go_sem] max2_int min2_int max_two min_two max_three min_three max_four min_four   -- for this text's walks alone
set_option linter.unusedVariables false
set_option linter.unusedSimpArgs false

attribute [local go_sem high] eqA29
/-! ### rampartref18_Set: function 17 -/
def rampartref18_Set.f (k : Nat) (a0_0 : Int) (a0_1 : Int) (l0_2 : List (S42)) (a1_0 : Int) (a1_1 : Int) (a1_2 : Int) (a1_3 : Int) (a1_4 : Int) (a1_5 : Int) (a1_6 : Int) (a1_7 : Int) (a1_8 : Int) (a1_9 : Int) (a1_10 : Int) (a1_11 : Int) : Option (Int × Int × (List (S42)) × Int) := (rampartref18_Check.f k a0_0 a0_1 l0_2).bind fun t364 => (if t364 = 0 then ((rampartref18_place.f k a0_0 a0_1 l0_2 a1_0).bind fun t365 => (if t365 < 0 then (some (0, 0, ([] : List (S42)), 182)) else (if a1_6 = 7 then ((some (([] : List (S42)) : List (S42))).bind fun y367 => (if 0 ≤ t365 then (if t365 ≤ (l0_2.length : Int) then ((some (l0_2.take (t365 : Int).toNat : List (S42))).bind fun y370 => (if y367.length + y370.length < 1954687338268 then ((some (y367 ++ y370 : List (S42))).bind fun y374 => (if 0 ≤ (wrap64 (t365 + 1)) then (if (wrap64 (t365 + 1)) ≤ (l0_2.length : Int) then ((some (l0_2.drop ((wrap64 (t365 + 1)) : Int).toNat : List (S42))).bind fun y377 => (if y374.length + y377.length < 1954687338268 then (some (a0_0, a0_1, (y374 ++ y377), 0)) else (none))) else (none)) else (none))) else (none))) else (none)) else (none))) else ((rampartref17_Left.f k a1_0 a1_1 a1_2 a1_3 a1_4 a1_5 a1_6 a1_7 a1_8 a1_9 a1_10 a1_11).bind fun t384 => (if t384 = 0 then (some (0, 0, ([] : List (S42)), 1)) else (if 0 ≤ t365 then (if t365 < (l0_2.length : Int) then (if (!(a1_1 == ((rd_T42 l0_2 t365).f1.f0)) || (!(a1_2 == ((rd_T42 l0_2 t365).f1.f1)) || (!(a1_3 == ((rd_T42 l0_2 t365).f1.f2)) || (!(a1_4 == ((rd_T42 l0_2 t365).f1.f3)) || (!(a1_5 == ((rd_T42 l0_2 t365).f1.f4))))))) = true then (some (0, 0, ([] : List (S42)), 1)) else ((some (([] : List (S42)) : List (S42))).bind fun y386 => (if y386.length + l0_2.length < 1954687338268 then ((some (y386 ++ l0_2 : List (S42))).bind fun y389 => (if t365 < (y389.length : Int) then (some (a0_0, a0_1, (y389.set (t365 : Int).toNat (⟨a1_0, (⟨a1_1, a1_2, a1_3, a1_4, a1_5⟩ : S29), a1_6, a1_7, a1_8, (⟨a1_9, a1_10⟩ : S40), a1_11⟩ : S42)), 0)) else (none))) else (none)))) else (none)) else (none))))))) else (some (0, 0, ([] : List (S42)), 180)))
theorem rampartref18_Set.mono : ∀ a0 a1 a2 a3 a4 a5 a6 a7 a8 a9 a10 a11 a12 a13 a14 k, LeO (rampartref18_Set.f k a0 a1 a2 a3 a4 a5 a6 a7 a8 a9 a10 a11 a12 a13 a14) (rampartref18_Set.f (k + 1) a0 a1 a2 a3 a4 a5 a6 a7 a8 a9 a10 a11 a12 a13 a14) := by
 intro a0 a1 a2 a3 a4 a5 a6 a7 a8 a9 a10 a11 a12 a13 a14 k
 unfold rampartref18_Set.f
 repeat' first
   | (with_reducible exact rampartref17_Left.mono _ _ _ _ _ _ _ _ _ _ _ _ _)
   | (with_reducible exact rampartref18_Check.mono _ _ _ _)
   | (with_reducible exact rampartref18_place.mono _ _ _ _ _)
   | (with_reducible exact LeO.refl _)
   | (with_reducible exact LeO.none _)
   | (with_reducible refine LeO.ite ?_ ?_)
   | (with_reducible refine LeO.bind ?_ (fun _ => ?_))
   | exact rampartref17_Left.mono _ _ _ _ _ _ _ _ _ _ _ _ _
   | exact rampartref18_Check.mono _ _ _ _
   | exact rampartref18_place.mono _ _ _ _ _
   | exact LeO.none _
   | refine LeO.ite ?_ ?_
   | refine LeO.bind ?_ (fun _ => ?_)
def rampartref18_Set.T8 : Bool × List (List Nat × List Nat) := (true, [([], []), ([], []), ([1], [1]), ([], []), ([2, 3], [2, 3]), ([0, 4], [0, 4]), ([], []), ([6], [6]), ([], []), ([8], [8]), ([7, 9], [7, 9]), ([5, 10, 5], [5, 10]), ([0, 1, 2, 3, 4, 5, 6, 7, 8, 9, 10, 11], []), ([12, 11, 11, 0, 1, 2, 3, 4, 5, 6, 7, 8, 9, 10, 11], [11, 12])])
def rampartref18_Set.B8 : List Nat := [0, 0, 2, 0, 14, 31, 0, 64, 0, 256, 960, 2047, 4095, 8191]
theorem rampartref18_Set.tab8 : rtab .any (opsOf Try.f17 8) = rampartref18_Set.T8 := by kernel_rfl
theorem rampartref18_Set.bits8 : waitsOk rampartref18_Set.T8.2 rampartref18_Set.B8 = true := by kernel_rfl
def rampartref18_Set.T10 : Bool × List (List Nat × List Nat) := (true, [([], []), ([0], [0]), ([1], [1]), ([2, 1], [2]), ([3], [3]), ([4, 3], [3, 4]), ([3], [3]), ([6, 3], [3, 6]), ([3], [3]), ([7, 8, 3], [3, 7, 8]), ([9, 3], [3, 9]), ([10, 3], [3, 10]), ([5, 11, 3], [3, 5, 11]), ([3, 12], [3, 12])])
def rampartref18_Set.B10 : List Nat := [0, 1, 3, 7, 15, 31, 15, 79, 15, 463, 975, 1999, 4095, 8191]
theorem rampartref18_Set.tab10 : rtab .any (opsOf Try.f17 10) = rampartref18_Set.T10 := by kernel_rfl
theorem rampartref18_Set.bits10 : waitsOk rampartref18_Set.T10.2 rampartref18_Set.B10 = true := by kernel_rfl
set_option maxHeartbeats 8000000 in
set_option maxRecDepth 100000 in
theorem rampartref18_Set.calls (k : Nat) (a0_0 : Int) (a0_1 : Int) (A0_2 : Option Addr) (c0_2 : Nat) (l0_2 : List (S42)) (a1_0 : Int) (a1_1 : Int) (a1_2 : Int) (a1_3 : Int) (a1_4 : Int) (a1_5 : Int) (a1_6 : Int) (a1_7 : Int) (a1_8 : Int) (a1_9 : Int) (a1_10 : Int) (a1_11 : Int) (r1 : Int) (r2 : Int) (r3 : List (S42)) (r4 : Int) (w : World) (hr0_2 : Kd.C k42 w A0_2 l0_2.length l0_2) (hc0_2 : l0_2.length ≤ c0_2) (h : rampartref18_Set.f k a0_0 a0_1 l0_2 a1_0 a1_1 a1_2 a1_3 a1_4 a1_5 a1_6 a1_7 a1_8 a1_9 a1_10 a1_11 = some (r1, r2, r3, r4)) :
  Calls Try.prog 17 #[.agg #[.int .i64 a0_0, .int .i64 a0_1, .slice A0_2 l0_2.length c0_2], .agg #[.int .i64 a1_0, .int .u8 a1_1, .int .u8 a1_2, .int .u8 a1_3, .int .u32 a1_4, .int .u64 a1_5, .int .i64 a1_6, .int .i64 a1_7, .int .i64 a1_8, .int .u64 a1_9, .int .u64 a1_10, .int .u64 a1_11]] w fun e w' => ∃ v2_ : Value, e = .returned (.tuple #[.agg #[.int .i64 r1, .int .i64 r2, v2_], .int .i64 r4]) ∧ Kd.R k42 42 w' w.heap.size (fun _ => True) v2_ r3 ∧ Below w.heap.size w w' := by
 have hu24 := Try.underlying24
 have hu42 := Try.underlying42
 have hu29 := Try.underlying29
 have HR0_2 := Aside0.mk hr0_2
 have HC0_2 := Aside0.mk hc0_2
 clear hr0_2 hc0_2
 have HB := Aside0.mk (Below.refl w.heap.size w)
 have H : ((rampartref18_Check.f k a0_0 a0_1 l0_2).bind fun t364 => (if t364 = 0 then ((rampartref18_place.f k a0_0 a0_1 l0_2 a1_0).bind fun t365 => (if t365 < 0 then (some (0, 0, ([] : List (S42)), 182)) else (if a1_6 = 7 then ((some (([] : List (S42)) : List (S42))).bind fun y367 => (if 0 ≤ t365 then (if t365 ≤ (l0_2.length : Int) then ((some (l0_2.take (t365 : Int).toNat : List (S42))).bind fun y370 => (if y367.length + y370.length < 1954687338268 then ((some (y367 ++ y370 : List (S42))).bind fun y374 => (if 0 ≤ (wrap64 (t365 + 1)) then (if (wrap64 (t365 + 1)) ≤ (l0_2.length : Int) then ((some (l0_2.drop ((wrap64 (t365 + 1)) : Int).toNat : List (S42))).bind fun y377 => (if y374.length + y377.length < 1954687338268 then (some (a0_0, a0_1, (y374 ++ y377), 0)) else (none))) else (none)) else (none))) else (none))) else (none)) else (none))) else ((rampartref17_Left.f k a1_0 a1_1 a1_2 a1_3 a1_4 a1_5 a1_6 a1_7 a1_8 a1_9 a1_10 a1_11).bind fun t384 => (if t384 = 0 then (some (0, 0, ([] : List (S42)), 1)) else (if 0 ≤ t365 then (if t365 < (l0_2.length : Int) then (if (!(a1_1 == ((rd_T42 l0_2 t365).f1.f0)) || (!(a1_2 == ((rd_T42 l0_2 t365).f1.f1)) || (!(a1_3 == ((rd_T42 l0_2 t365).f1.f2)) || (!(a1_4 == ((rd_T42 l0_2 t365).f1.f3)) || (!(a1_5 == ((rd_T42 l0_2 t365).f1.f4))))))) = true then (some (0, 0, ([] : List (S42)), 1)) else ((some (([] : List (S42)) : List (S42))).bind fun y386 => (if y386.length + l0_2.length < 1954687338268 then ((some (y386 ++ l0_2 : List (S42))).bind fun y389 => (if t365 < (y389.length : Int) then (some (a0_0, a0_1, (y389.set (t365 : Int).toNat (⟨a1_0, (⟨a1_1, a1_2, a1_3, a1_4, a1_5⟩ : S29), a1_6, a1_7, a1_8, (⟨a1_9, a1_10⟩ : S40), a1_11⟩ : S42)), 0)) else (none))) else (none)))) else (none)) else (none))))))) else (some (0, 0, ([] : List (S42)), 180)))) = some (r1, r2, r3, r4) := h
 clear h
 replace H := Option.bind_eq_some_iff.mp H
 obtain ⟨t364, A30, H⟩ := H
 replace H : (if t364 = 0 then ((rampartref18_place.f k a0_0 a0_1 l0_2 a1_0).bind fun t365 => (if t365 < 0 then (some (0, 0, ([] : List (S42)), 182)) else (if a1_6 = 7 then ((some (([] : List (S42)) : List (S42))).bind fun y367 => (if 0 ≤ t365 then (if t365 ≤ (l0_2.length : Int) then ((some (l0_2.take (t365 : Int).toNat : List (S42))).bind fun y370 => (if y367.length + y370.length < 1954687338268 then ((some (y367 ++ y370 : List (S42))).bind fun y374 => (if 0 ≤ (wrap64 (t365 + 1)) then (if (wrap64 (t365 + 1)) ≤ (l0_2.length : Int) then ((some (l0_2.drop ((wrap64 (t365 + 1)) : Int).toNat : List (S42))).bind fun y377 => (if y374.length + y377.length < 1954687338268 then (some (a0_0, a0_1, (y374 ++ y377), 0)) else (none))) else (none)) else (none))) else (none))) else (none)) else (none))) else ((rampartref17_Left.f k a1_0 a1_1 a1_2 a1_3 a1_4 a1_5 a1_6 a1_7 a1_8 a1_9 a1_10 a1_11).bind fun t384 => (if t384 = 0 then (some (0, 0, ([] : List (S42)), 1)) else (if 0 ≤ t365 then (if t365 < (l0_2.length : Int) then (if (!(a1_1 == ((rd_T42 l0_2 t365).f1.f0)) || (!(a1_2 == ((rd_T42 l0_2 t365).f1.f1)) || (!(a1_3 == ((rd_T42 l0_2 t365).f1.f2)) || (!(a1_4 == ((rd_T42 l0_2 t365).f1.f3)) || (!(a1_5 == ((rd_T42 l0_2 t365).f1.f4))))))) = true then (some (0, 0, ([] : List (S42)), 1)) else ((some (([] : List (S42)) : List (S42))).bind fun y386 => (if y386.length + l0_2.length < 1954687338268 then ((some (y386 ++ l0_2 : List (S42))).bind fun y389 => (if t365 < (y389.length : Int) then (some (a0_0, a0_1, (y389.set (t365 : Int).toNat (⟨a1_0, (⟨a1_1, a1_2, a1_3, a1_4, a1_5⟩ : S29), a1_6, a1_7, a1_8, (⟨a1_9, a1_10⟩ : S40), a1_11⟩ : S42)), 0)) else (none))) else (none)))) else (none)) else (none))))))) else (some (0, 0, ([] : List (S42)), 180))) = some (r1, r2, r3, r4) := H
 have A3 := Aside0.mk A30
 clear A30
 by_cases c4 : t364 = 0
 ·rw [if_pos c4] at H
  have c4b0 : (t364 == 0) = true := beq_iff_eq.mpr c4
  have c4b1 : (t364 != 0) = false := bne_eq_false_iff_eq.mpr c4
  clear c4
  replace H := Option.bind_eq_some_iff.mp H
  obtain ⟨t365, A50, H⟩ := H
  replace H : (if t365 < 0 then (some (0, 0, ([] : List (S42)), 182)) else (if a1_6 = 7 then ((some (([] : List (S42)) : List (S42))).bind fun y367 => (if 0 ≤ t365 then (if t365 ≤ (l0_2.length : Int) then ((some (l0_2.take (t365 : Int).toNat : List (S42))).bind fun y370 => (if y367.length + y370.length < 1954687338268 then ((some (y367 ++ y370 : List (S42))).bind fun y374 => (if 0 ≤ (wrap64 (t365 + 1)) then (if (wrap64 (t365 + 1)) ≤ (l0_2.length : Int) then ((some (l0_2.drop ((wrap64 (t365 + 1)) : Int).toNat : List (S42))).bind fun y377 => (if y374.length + y377.length < 1954687338268 then (some (a0_0, a0_1, (y374 ++ y377), 0)) else (none))) else (none)) else (none))) else (none))) else (none)) else (none))) else ((rampartref17_Left.f k a1_0 a1_1 a1_2 a1_3 a1_4 a1_5 a1_6 a1_7 a1_8 a1_9 a1_10 a1_11).bind fun t384 => (if t384 = 0 then (some (0, 0, ([] : List (S42)), 1)) else (if 0 ≤ t365 then (if t365 < (l0_2.length : Int) then (if (!(a1_1 == ((rd_T42 l0_2 t365).f1.f0)) || (!(a1_2 == ((rd_T42 l0_2 t365).f1.f1)) || (!(a1_3 == ((rd_T42 l0_2 t365).f1.f2)) || (!(a1_4 == ((rd_T42 l0_2 t365).f1.f3)) || (!(a1_5 == ((rd_T42 l0_2 t365).f1.f4))))))) = true then (some (0, 0, ([] : List (S42)), 1)) else ((some (([] : List (S42)) : List (S42))).bind fun y386 => (if y386.length + l0_2.length < 1954687338268 then ((some (y386 ++ l0_2 : List (S42))).bind fun y389 => (if t365 < (y389.length : Int) then (some (a0_0, a0_1, (y389.set (t365 : Int).toNat (⟨a1_0, (⟨a1_1, a1_2, a1_3, a1_4, a1_5⟩ : S29), a1_6, a1_7, a1_8, (⟨a1_9, a1_10⟩ : S40), a1_11⟩ : S42)), 0)) else (none))) else (none)))) else (none)) else (none)))))) = some (r1, r2, r3, r4) := H
  have A5 := Aside0.mk A50
  clear A50
  by_cases c6 : t365 < 0
  ·rw [if_pos c6] at H
   have c6b0 : decide (t365 < 0) = true := decide_eq_true c6
   clear c6
   simp only [Option.some.injEq, Prod.mk.injEq] at H
   obtain ⟨rfl, rfl, rfl, rfl⟩ := H
   go_enter Try.func17, Try.ntmps17
   go_wp2_with (first | ((with_reducible refine gate_dst (N := 2) rfl ?_); refine box_event ?hg (N := 2) ?hd (cs := #[.int .i64 a0_0, .int .i64 a0_1, .slice A0_2 l0_2.length c0_2]) (t := 24) ?hr ?_; (case hd => rfl); (case hg => rfl); (case hr => first | (go_simp; done) | (go_simp; rfl)); intro gb361 hg w7 hbox hb; have ⟨n0_, n2_⟩ := pkB (stb HB) hb hg; have n3_ := n2_; have n1_ := Aside0.mk (hbox); clear HB; have HB := n0_; have BK361 := n1_; have GW361 := n2_; have GE361 := n3_; clear n0_ n1_ n2_ n3_; clear hb hbox hg) | ((with_reducible refine gate_dst (N := 3) rfl ?_); refine box_event ?hg (N := 3) ?hd (cs := #[.int .i64 a1_0, .int .u8 a1_1, .int .u8 a1_2, .int .u8 a1_3, .int .u32 a1_4, .int .u64 a1_5, .int .i64 a1_6, .int .i64 a1_7, .int .i64 a1_8, .int .u64 a1_9, .int .u64 a1_10, .int .u64 a1_11]) (t := 42) ?hr ?_; (case hd => rfl); (case hg => rfl); (case hr => first | (go_simp; done) | (go_simp; rfl)); intro gb362 hg w8 hbox hb; have ⟨n0_, n5_, n6_⟩ := pkK (stp BK361) hb hg; have ⟨n1_, n3_⟩ := pkB (w := w) (by repeat (first | (with_reducible first | exact HB.out | apply below_alloc | apply pw_below_drewN | apply below_drew1 | refine below_set ?_ GE361.out) | exact HB.out)) hb hg; have n4_ := n3_; have n2_ := Aside0.mk (hbox); clear BK361; clear HB; have BK361 := n0_; have HB := n1_; have BK362 := n2_; have GW362 := n3_; have GE362 := n4_; have NB361_362 := n5_; have NB362_361 := n6_; clear n0_ n1_ n2_ n3_ n4_ n5_ n6_; clear hb hbox hg) | ((with_reducible refine gate_dst (N := 4) rfl ?_); refine box_event ?hg (N := 4) ?hd (cs := #[.int .i64 0, .int .i64 0, .slice none 0 0]) (t := 24) ?hr ?_; (case hd => rfl); (case hg => rfl); (case hr => first | (go_simp; done) | (go_simp; rfl)); intro gb363 hg w9 hbox hb; have ⟨n0_, n6_, n7_⟩ := pkK (stp BK361) hb hg; have ⟨n1_, n8_, n9_⟩ := pkK (stp BK362) hb hg; have ⟨n2_, n4_⟩ := pkB (w := w) (by repeat (first | (with_reducible first | exact HB.out | apply below_alloc | apply pw_below_drewN | apply below_drew1 | refine below_set ?_ GE361.out | refine below_set ?_ GE362.out) | exact HB.out)) hb hg; have n5_ := n4_; have n3_ := Aside0.mk (hbox); clear BK361; clear BK362; clear HB; have BK361 := n0_; have BK362 := n1_; have HB := n2_; have BK363 := n3_; have GW363 := n4_; have GE363 := n5_; have NB361_363 := n6_; have NB363_361 := n7_; have NB362_363 := n8_; have NB363_362 := n9_; clear n0_ n1_ n2_ n3_ n4_ n5_ n6_ n7_ n8_ n9_; clear hb hbox hg; have hnb10 := NB361_362.out; have hnc10 := NB362_361.out; have hnb11 := NB361_363.out; have hnc11 := NB363_361.out; have hcz12_0 : w9.cell? ⟨gb361, 0, none⟩ = some (.int .i64 a0_0) := (blk_cell BK361.out 0).trans rfl; have hcz12_1 : w9.cell? ⟨gb361, 1, none⟩ = some (.int .i64 a0_1) := (blk_cell BK361.out 1).trans rfl; have hcz12_2 : w9.cell? ⟨gb361, 2, none⟩ = some (.slice A0_2 l0_2.length c0_2) := (blk_cell BK361.out 2).trans rfl; have hfz12_0 := blk_frozen BK361.out 0; have hfz12_1 := blk_frozen BK361.out 1; have hfz12_2 := blk_frozen BK361.out 2) | ((with_reducible refine gate_callee (f := 21) rfl ?_); refine goesL_ (some 9) rfl rfl Try.func21 (by kernel_rfl) rfl #[.agg #[.int .i64 a0_0, .int .i64 a0_1, .slice A0_2 l0_2.length c0_2]] rfl (by (try simp only [List.map_toArray, List.map_cons, List.map_nil]); first | done | rfl | (simp only [List.length_drop, List.length_take]; rfl)) ?_; (with_reducible refine (rampartref18_Check.calls k a0_0 a0_1 _ _ l0_2 t364 _ ?side1 ?side2 A3.out).mono ?_); (case side1 => repeat (first | exact (Kd.C_below HR0_2.out HB.out) | (with_reducible refine Kd.C_alloc ?_ _) | (with_reducible refine Kd.C_drewN ?_ _) | (with_reducible refine Kd.C_drew ?_))); (case side2 => exact HC0_2.out); rintro e w13 ⟨rfl, hb⟩; refine ⟨_, rfl, ?_⟩; have n0_ := Aside0.mk (blk_below (stp BK361) hb); have n1_ := Aside0.mk (blk_below (stp BK362) hb); have n2_ := Aside0.mk (blk_below (stp BK363) hb); have n3_ := Aside0.mk (below_step (by repeat (first | (with_reducible first | exact HB.out | apply below_alloc | apply pw_below_drewN | apply below_drew1 | refine below_set ?_ GE361.out | refine below_set ?_ GE362.out | refine below_set ?_ GE363.out) | exact HB.out)) hb); clear BK361; clear BK362; clear BK363; clear HB; have BK361 := n0_; have BK362 := n1_; have BK363 := n2_; have HB := n3_; clear n0_ n1_ n2_ n3_; (try clear hb); (try clear hb2); (try clear hk); (try clear hi); have hcz14_0 : w13.cell? ⟨gb361, 0, none⟩ = some (.int .i64 a0_0) := (blk_cell BK361.out 0).trans rfl; have hcz14_1 : w13.cell? ⟨gb361, 1, none⟩ = some (.int .i64 a0_1) := (blk_cell BK361.out 1).trans rfl; have hcz14_2 : w13.cell? ⟨gb361, 2, none⟩ = some (.slice A0_2 l0_2.length c0_2) := (blk_cell BK361.out 2).trans rfl; have hfz14_0 := blk_frozen BK361.out 0; have hfz14_1 := blk_frozen BK361.out 1; have hfz14_2 := blk_frozen BK361.out 2; have hnb15 := NB362_363.out; have hnc15 := NB363_362.out; have hcz16_0 : w13.cell? ⟨gb362, 0, none⟩ = some (.int .i64 a1_0) := (blk_cell BK362.out 0).trans rfl; have hcz16_1 : w13.cell? ⟨gb362, 1, none⟩ = some (.int .u8 a1_1) := (blk_cell BK362.out 1).trans rfl; have hcz16_2 : w13.cell? ⟨gb362, 2, none⟩ = some (.int .u8 a1_2) := (blk_cell BK362.out 2).trans rfl; have hcz16_3 : w13.cell? ⟨gb362, 3, none⟩ = some (.int .u8 a1_3) := (blk_cell BK362.out 3).trans rfl; have hcz16_4 : w13.cell? ⟨gb362, 4, none⟩ = some (.int .u32 a1_4) := (blk_cell BK362.out 4).trans rfl; have hcz16_5 : w13.cell? ⟨gb362, 5, none⟩ = some (.int .u64 a1_5) := (blk_cell BK362.out 5).trans rfl; have hcz16_6 : w13.cell? ⟨gb362, 6, none⟩ = some (.int .i64 a1_6) := (blk_cell BK362.out 6).trans rfl; have hcz16_7 : w13.cell? ⟨gb362, 7, none⟩ = some (.int .i64 a1_7) := (blk_cell BK362.out 7).trans rfl; have hcz16_8 : w13.cell? ⟨gb362, 8, none⟩ = some (.int .i64 a1_8) := (blk_cell BK362.out 8).trans rfl; have hcz16_9 : w13.cell? ⟨gb362, 9, none⟩ = some (.int .u64 a1_9) := (blk_cell BK362.out 9).trans rfl; have hcz16_10 : w13.cell? ⟨gb362, 10, none⟩ = some (.int .u64 a1_10) := (blk_cell BK362.out 10).trans rfl; have hcz16_11 : w13.cell? ⟨gb362, 11, none⟩ = some (.int .u64 a1_11) := (blk_cell BK362.out 11).trans rfl; have hfz16_0 := blk_frozen BK362.out 0; have hfz16_1 := blk_frozen BK362.out 1; have hfz16_2 := blk_frozen BK362.out 2; have hfz16_3 := blk_frozen BK362.out 3; have hfz16_4 := blk_frozen BK362.out 4; have hfz16_5 := blk_frozen BK362.out 5; have hfz16_6 := blk_frozen BK362.out 6; have hfz16_7 := blk_frozen BK362.out 7; have hfz16_8 := blk_frozen BK362.out 8; have hfz16_9 := blk_frozen BK362.out 9; have hfz16_10 := blk_frozen BK362.out 10; have hfz16_11 := blk_frozen BK362.out 11) | ((with_reducible refine gate_callee (f := 30) rfl ?_); refine goesL_ (some 15) rfl rfl Try.func30 (by kernel_rfl) rfl #[.agg #[.int .i64 a0_0, .int .i64 a0_1, .slice A0_2 l0_2.length c0_2], .int .i64 a1_0] rfl (by (try simp only [List.map_toArray, List.map_cons, List.map_nil]); first | done | rfl | (simp only [List.length_drop, List.length_take]; rfl)) ?_; (with_reducible refine (rampartref18_place.calls k a0_0 a0_1 _ _ l0_2 a1_0 t365 _ ?side1 ?side2 A5.out).mono ?_); (case side1 => repeat (first | exact (Kd.C_below HR0_2.out HB.out) | (with_reducible refine Kd.C_alloc ?_ _) | (with_reducible refine Kd.C_drewN ?_ _) | (with_reducible refine Kd.C_drew ?_))); (case side2 => exact HC0_2.out); rintro e w17 ⟨rfl, hb⟩; refine ⟨_, rfl, ?_⟩; have n0_ := Aside0.mk (blk_below (stp BK361) hb); have n1_ := Aside0.mk (blk_below (stp BK362) hb); have n2_ := Aside0.mk (blk_below (stp BK363) hb); have n3_ := Aside0.mk (below_step (by repeat (first | (with_reducible first | exact HB.out | apply below_alloc | apply pw_below_drewN | apply below_drew1 | refine below_set ?_ GE361.out | refine below_set ?_ GE362.out | refine below_set ?_ GE363.out) | exact HB.out)) hb); clear BK361; clear BK362; clear BK363; clear HB; have BK361 := n0_; have BK362 := n1_; have BK363 := n2_; have HB := n3_; clear n0_ n1_ n2_ n3_; (try clear hb); (try clear hb2); (try clear hk); (try clear hi); have hcz18_0 : w17.cell? ⟨gb363, 0, none⟩ = some (.int .i64 0) := (blk_cell BK363.out 0).trans rfl; have hcz18_1 : w17.cell? ⟨gb363, 1, none⟩ = some (.int .i64 0) := (blk_cell BK363.out 1).trans rfl; have hcz18_2 : w17.cell? ⟨gb363, 2, none⟩ = some (.slice none 0 0) := (blk_cell BK363.out 2).trans rfl; have hfz18_0 := blk_frozen BK363.out 0; have hfz18_1 := blk_frozen BK363.out 1; have hfz18_2 := blk_frozen BK363.out 2))
   refine bodyPost_ret (results_ct rfl _ _ gb363 24 #[.int .i64 0, .int .i64 0, .slice none 0 0] (0, 0) _ rfl (by refine stq ?_; refine blk_put (cs := #[.int .i64 0, .int .i64 0, .slice none 0 0]) ?_ 2 _ rfl; refine stq ?_; refine blk_put (cs := #[.int .i64 0, .int .i64 0, .slice none 0 0]) ?_ 1 _ rfl; refine stq ?_; refine blk_put (cs := #[.int .i64 0, .int .i64 0, .slice none 0 0]) ?_ 0 _ rfl; refine stq ?_; exact BK363.out) Try.underlying24 rfl (by kernel_rfl)) rfl ?_
   exact ⟨_, by first | rfl | (simp [errW_none, errW_some] <;> rfl) | (simp [*, errW_none, errW_some] <;> rfl), by first | exact Kd.R_nil _ _ _ _ _ | exact Kd.N_nil _ _ _ _ _ | exact Kd.V_nil _ _ _ _ _ | exact Kd.Q_nil _ _ _ _ _ | exact Kd.S_nil _ _ _ _ _, by repeat (first | (with_reducible first | exact HB.out | apply below_alloc | apply pw_below_drewN | apply below_drew1 | refine below_set ?_ GE361.out | refine below_set ?_ GE362.out | refine below_set ?_ GE363.out) | exact HB.out)⟩
  ·rw [if_neg c6] at H
   have c6b0 : decide (t365 < 0) = false := decide_eq_false c6
   clear c6
   by_cases c19 : a1_6 = 7
   ·rw [if_pos c19] at H
    have c19b0 : (a1_6 == 7) = true := beq_iff_eq.mpr c19
    have c19b1 : (a1_6 != 7) = false := bne_eq_false_iff_eq.mpr c19
    clear c19
    obtain ⟨y367, hy367⟩ : ∃ y_ : List (S42), y_ = (([] : List (S42))) := ⟨_, rfl⟩
    replace H : (if 0 ≤ t365 then (if t365 ≤ (l0_2.length : Int) then ((some (l0_2.take (t365 : Int).toNat : List (S42))).bind fun y370 => (if y367.length + y370.length < 1954687338268 then ((some (y367 ++ y370 : List (S42))).bind fun y374 => (if 0 ≤ (wrap64 (t365 + 1)) then (if (wrap64 (t365 + 1)) ≤ (l0_2.length : Int) then ((some (l0_2.drop ((wrap64 (t365 + 1)) : Int).toNat : List (S42))).bind fun y377 => (if y374.length + y377.length < 1954687338268 then (some (a0_0, a0_1, (y374 ++ y377), 0)) else (none))) else (none)) else (none))) else (none))) else (none)) else (none)) = some (r1, r2, r3, r4) := by first | (rw [hy367]; with_reducible exact H) | (have H2_ := (Option.bind_some _ _).symm.trans H; rw [hy367]; with_reducible exact H2_) | (have H2_ := (Option.bind_some _ _).symm.trans H; with_reducible exact H2_) | with_reducible exact H | (rw [hy367]; exact H) | exact H
    have Ny367 := Aside0.mk hy367
    clear hy367
    by_cases c20 : 0 ≤ t365
    ·rw [if_pos c20] at H
     have c20b0 := eq_true c20
     have c20b1 : decide (0 ≤ t365) = true := decide_eq_true c20
     clear c20
     by_cases c21 : t365 ≤ (l0_2.length : Int)
     ·rw [if_pos c21] at H
      have c21b0 := eq_true c21
      have c21b1 : decide (t365 ≤ (l0_2.length : Int)) = true := decide_eq_true c21
      clear c21
      obtain ⟨y370, hy370⟩ : ∃ y_ : List (S42), y_ = (l0_2.take (t365 : Int).toNat) := ⟨_, rfl⟩
      replace H : (if y367.length + y370.length < 1954687338268 then ((some (y367 ++ y370 : List (S42))).bind fun y374 => (if 0 ≤ (wrap64 (t365 + 1)) then (if (wrap64 (t365 + 1)) ≤ (l0_2.length : Int) then ((some (l0_2.drop ((wrap64 (t365 + 1)) : Int).toNat : List (S42))).bind fun y377 => (if y374.length + y377.length < 1954687338268 then (some (a0_0, a0_1, (y374 ++ y377), 0)) else (none))) else (none)) else (none))) else (none)) = some (r1, r2, r3, r4) := by first | (rw [hy370]; with_reducible exact H) | (have H2_ := (Option.bind_some _ _).symm.trans H; rw [hy370]; with_reducible exact H2_) | (have H2_ := (Option.bind_some _ _).symm.trans H; with_reducible exact H2_) | with_reducible exact H | (rw [hy370]; exact H) | exact H
      have Ny370 := Aside0.mk hy370
      clear hy370
      by_cases c22 : y367.length + y370.length < 1954687338268
      ·rw [if_pos c22] at H
       have LMc22 := Aside0.mk c22
       clear c22
       obtain ⟨y374, hy374⟩ : ∃ y_ : List (S42), y_ = (y367 ++ y370) := ⟨_, rfl⟩
       replace H : (if 0 ≤ (wrap64 (t365 + 1)) then (if (wrap64 (t365 + 1)) ≤ (l0_2.length : Int) then ((some (l0_2.drop ((wrap64 (t365 + 1)) : Int).toNat : List (S42))).bind fun y377 => (if y374.length + y377.length < 1954687338268 then (some (a0_0, a0_1, (y374 ++ y377), 0)) else (none))) else (none)) else (none)) = some (r1, r2, r3, r4) := by first | (rw [hy374]; with_reducible exact H) | (have H2_ := (Option.bind_some _ _).symm.trans H; rw [hy374]; with_reducible exact H2_) | (have H2_ := (Option.bind_some _ _).symm.trans H; with_reducible exact H2_) | with_reducible exact H | (rw [hy374]; exact H) | exact H
       have Ny374 := Aside0.mk hy374
       clear hy374
       obtain ⟨ji23, hji23⟩ : ∃ j_ : Int, (wrap64 (t365 + 1)) = j_ := ⟨_, rfl⟩
       replace H : (if 0 ≤ (ji23) then (if (ji23) ≤ (l0_2.length : Int) then ((some (l0_2.drop ((ji23) : Int).toNat : List (S42))).bind fun y377 => (if y374.length + y377.length < 1954687338268 then (some (a0_0, a0_1, (y374 ++ y377), 0)) else (none))) else (none)) else (none)) = some (r1, r2, r3, r4) := by first | (rw [hji23] at H; exact H) | (simp only [hji23] at H ⊢; exact H)
       (try rw [hji23] at A3)
       (try rw [hji23] at A5)
       have hji23w : (IntKind.i64.wrap (t365 + 1)) = ji23 := (i64_w _).trans hji23
       by_cases c24 : 0 ≤ (ji23)
       ·rw [if_pos c24] at H
        have c24b0 := eq_true c24
        have c24b1 : decide (0 ≤ (ji23)) = true := decide_eq_true c24
        clear c24
        by_cases c25 : (ji23) ≤ (l0_2.length : Int)
        ·rw [if_pos c25] at H
         have c25b0 := eq_true c25
         have c25b1 : decide ((ji23) ≤ (l0_2.length : Int)) = true := decide_eq_true c25
         clear c25
         obtain ⟨y377, hy377⟩ : ∃ y_ : List (S42), y_ = (l0_2.drop ((ji23) : Int).toNat) := ⟨_, rfl⟩
         replace H : (if y374.length + y377.length < 1954687338268 then (some (a0_0, a0_1, (y374 ++ y377), 0)) else (none)) = some (r1, r2, r3, r4) := by first | (rw [hy377]; with_reducible exact H) | (have H2_ := (Option.bind_some _ _).symm.trans H; rw [hy377]; with_reducible exact H2_) | (have H2_ := (Option.bind_some _ _).symm.trans H; with_reducible exact H2_) | with_reducible exact H | (rw [hy377]; exact H) | exact H
         have Ny377 := Aside0.mk hy377
         clear hy377
         by_cases c26 : y374.length + y377.length < 1954687338268
         ·rw [if_pos c26] at H
          have LMc26 := Aside0.mk c26
          clear c26
          obtain ⟨y381, hy381⟩ : ∃ y_ : List (S42), y_ = (y374 ++ y377) := ⟨_, rfl⟩
          replace H : (some (a0_0, a0_1, y381, 0)) = some (r1, r2, r3, r4) := by first | (rw [hy381]; with_reducible exact H) | (have H2_ := (Option.bind_some _ _).symm.trans H; rw [hy381]; with_reducible exact H2_) | (have H2_ := (Option.bind_some _ _).symm.trans H; with_reducible exact H2_) | with_reducible exact H | (rw [hy381]; exact H) | exact H
          have Ny381 := Aside0.mk hy381
          clear hy381
          simp only [Option.some.injEq, Prod.mk.injEq] at H
          obtain ⟨rfl, rfl, rfl, rfl⟩ := H
          go_enter Try.func17, Try.ntmps17
          try go_wp2_with (first | ((with_reducible refine gate_dst (N := 2) rfl ?_); refine box_event ?hg (N := 2) ?hd (cs := #[.int .i64 a0_0, .int .i64 a0_1, .slice A0_2 l0_2.length c0_2]) (t := 24) ?hr ?_; (case hd => rfl); (case hg => rfl); (case hr => first | (go_simp; done) | (go_simp; rfl)); intro gb361 hg w27 hbox hb; have ⟨n0_, n2_⟩ := pkB (stb HB) hb hg; have n3_ := n2_; have n1_ := Aside0.mk (hbox); clear HB; have HB := n0_; have BK361 := n1_; have GW361 := n2_; have GE361 := n3_; clear n0_ n1_ n2_ n3_; clear hb hbox hg) | ((with_reducible refine gate_dst (N := 3) rfl ?_); refine box_event ?hg (N := 3) ?hd (cs := #[.int .i64 a1_0, .int .u8 a1_1, .int .u8 a1_2, .int .u8 a1_3, .int .u32 a1_4, .int .u64 a1_5, .int .i64 a1_6, .int .i64 a1_7, .int .i64 a1_8, .int .u64 a1_9, .int .u64 a1_10, .int .u64 a1_11]) (t := 42) ?hr ?_; (case hd => rfl); (case hg => rfl); (case hr => first | (go_simp; done) | (go_simp; rfl)); intro gb362 hg w28 hbox hb; have ⟨n0_, n5_, n6_⟩ := pkK (stp BK361) hb hg; have ⟨n1_, n3_⟩ := pkB (w := w) (by repeat (first | (with_reducible first | exact HB.out | apply below_alloc | apply pw_below_drewN | apply below_drew1 | refine below_set ?_ GE361.out) | exact HB.out)) hb hg; have n4_ := n3_; have n2_ := Aside0.mk (hbox); clear BK361; clear HB; have BK361 := n0_; have HB := n1_; have BK362 := n2_; have GW362 := n3_; have GE362 := n4_; have NB361_362 := n5_; have NB362_361 := n6_; clear n0_ n1_ n2_ n3_ n4_ n5_ n6_; clear hb hbox hg) | ((with_reducible refine gate_dst (N := 4) rfl ?_); refine box_event ?hg (N := 4) ?hd (cs := #[.int .i64 0, .int .i64 0, .slice none 0 0]) (t := 24) ?hr ?_; (case hd => rfl); (case hg => rfl); (case hr => first | (go_simp; done) | (go_simp; rfl)); intro gb363 hg w29 hbox hb; have ⟨n0_, n6_, n7_⟩ := pkK (stp BK361) hb hg; have ⟨n1_, n8_, n9_⟩ := pkK (stp BK362) hb hg; have ⟨n2_, n4_⟩ := pkB (w := w) (by repeat (first | (with_reducible first | exact HB.out | apply below_alloc | apply pw_below_drewN | apply below_drew1 | refine below_set ?_ GE361.out | refine below_set ?_ GE362.out) | exact HB.out)) hb hg; have n5_ := n4_; have n3_ := Aside0.mk (hbox); clear BK361; clear BK362; clear HB; have BK361 := n0_; have BK362 := n1_; have HB := n2_; have BK363 := n3_; have GW363 := n4_; have GE363 := n5_; have NB361_363 := n6_; have NB363_361 := n7_; have NB362_363 := n8_; have NB363_362 := n9_; clear n0_ n1_ n2_ n3_ n4_ n5_ n6_ n7_ n8_ n9_; clear hb hbox hg; have hnb30 := NB361_362.out; have hnc30 := NB362_361.out; have hnb31 := NB361_363.out; have hnc31 := NB363_361.out; have hcz32_0 : w29.cell? ⟨gb361, 0, none⟩ = some (.int .i64 a0_0) := (blk_cell BK361.out 0).trans rfl; have hcz32_1 : w29.cell? ⟨gb361, 1, none⟩ = some (.int .i64 a0_1) := (blk_cell BK361.out 1).trans rfl; have hcz32_2 : w29.cell? ⟨gb361, 2, none⟩ = some (.slice A0_2 l0_2.length c0_2) := (blk_cell BK361.out 2).trans rfl; have hfz32_0 := blk_frozen BK361.out 0; have hfz32_1 := blk_frozen BK361.out 1; have hfz32_2 := blk_frozen BK361.out 2) | ((with_reducible refine gate_callee (f := 21) rfl ?_); refine goesL_ (some 9) rfl rfl Try.func21 (by kernel_rfl) rfl #[.agg #[.int .i64 a0_0, .int .i64 a0_1, .slice A0_2 l0_2.length c0_2]] rfl (by (try simp only [List.map_toArray, List.map_cons, List.map_nil]); first | done | rfl | (simp only [List.length_drop, List.length_take]; rfl)) ?_; (with_reducible refine (rampartref18_Check.calls k a0_0 a0_1 _ _ l0_2 t364 _ ?side1 ?side2 A3.out).mono ?_); (case side1 => repeat (first | exact (Kd.C_below HR0_2.out HB.out) | (with_reducible refine Kd.C_alloc ?_ _) | (with_reducible refine Kd.C_drewN ?_ _) | (with_reducible refine Kd.C_drew ?_))); (case side2 => exact HC0_2.out); rintro e w33 ⟨rfl, hb⟩; refine ⟨_, rfl, ?_⟩; have n0_ := Aside0.mk (blk_below (stp BK361) hb); have n1_ := Aside0.mk (blk_below (stp BK362) hb); have n2_ := Aside0.mk (blk_below (stp BK363) hb); have n3_ := Aside0.mk (below_step (by repeat (first | (with_reducible first | exact HB.out | apply below_alloc | apply pw_below_drewN | apply below_drew1 | refine below_set ?_ GE361.out | refine below_set ?_ GE362.out | refine below_set ?_ GE363.out) | exact HB.out)) hb); clear BK361; clear BK362; clear BK363; clear HB; have BK361 := n0_; have BK362 := n1_; have BK363 := n2_; have HB := n3_; clear n0_ n1_ n2_ n3_; (try clear hb); (try clear hb2); (try clear hk); (try clear hi); have hcz34_0 : w33.cell? ⟨gb361, 0, none⟩ = some (.int .i64 a0_0) := (blk_cell BK361.out 0).trans rfl; have hcz34_1 : w33.cell? ⟨gb361, 1, none⟩ = some (.int .i64 a0_1) := (blk_cell BK361.out 1).trans rfl; have hcz34_2 : w33.cell? ⟨gb361, 2, none⟩ = some (.slice A0_2 l0_2.length c0_2) := (blk_cell BK361.out 2).trans rfl; have hfz34_0 := blk_frozen BK361.out 0; have hfz34_1 := blk_frozen BK361.out 1; have hfz34_2 := blk_frozen BK361.out 2; have hnb35 := NB362_363.out; have hnc35 := NB363_362.out; have hcz36_0 : w33.cell? ⟨gb362, 0, none⟩ = some (.int .i64 a1_0) := (blk_cell BK362.out 0).trans rfl; have hcz36_1 : w33.cell? ⟨gb362, 1, none⟩ = some (.int .u8 a1_1) := (blk_cell BK362.out 1).trans rfl; have hcz36_2 : w33.cell? ⟨gb362, 2, none⟩ = some (.int .u8 a1_2) := (blk_cell BK362.out 2).trans rfl; have hcz36_3 : w33.cell? ⟨gb362, 3, none⟩ = some (.int .u8 a1_3) := (blk_cell BK362.out 3).trans rfl; have hcz36_4 : w33.cell? ⟨gb362, 4, none⟩ = some (.int .u32 a1_4) := (blk_cell BK362.out 4).trans rfl; have hcz36_5 : w33.cell? ⟨gb362, 5, none⟩ = some (.int .u64 a1_5) := (blk_cell BK362.out 5).trans rfl; have hcz36_6 : w33.cell? ⟨gb362, 6, none⟩ = some (.int .i64 a1_6) := (blk_cell BK362.out 6).trans rfl; have hcz36_7 : w33.cell? ⟨gb362, 7, none⟩ = some (.int .i64 a1_7) := (blk_cell BK362.out 7).trans rfl; have hcz36_8 : w33.cell? ⟨gb362, 8, none⟩ = some (.int .i64 a1_8) := (blk_cell BK362.out 8).trans rfl; have hcz36_9 : w33.cell? ⟨gb362, 9, none⟩ = some (.int .u64 a1_9) := (blk_cell BK362.out 9).trans rfl; have hcz36_10 : w33.cell? ⟨gb362, 10, none⟩ = some (.int .u64 a1_10) := (blk_cell BK362.out 10).trans rfl; have hcz36_11 : w33.cell? ⟨gb362, 11, none⟩ = some (.int .u64 a1_11) := (blk_cell BK362.out 11).trans rfl; have hfz36_0 := blk_frozen BK362.out 0; have hfz36_1 := blk_frozen BK362.out 1; have hfz36_2 := blk_frozen BK362.out 2; have hfz36_3 := blk_frozen BK362.out 3; have hfz36_4 := blk_frozen BK362.out 4; have hfz36_5 := blk_frozen BK362.out 5; have hfz36_6 := blk_frozen BK362.out 6; have hfz36_7 := blk_frozen BK362.out 7; have hfz36_8 := blk_frozen BK362.out 8; have hfz36_9 := blk_frozen BK362.out 9; have hfz36_10 := blk_frozen BK362.out 10; have hfz36_11 := blk_frozen BK362.out 11) | ((with_reducible refine gate_callee (f := 30) rfl ?_); refine goesL_ (some 15) rfl rfl Try.func30 (by kernel_rfl) rfl #[.agg #[.int .i64 a0_0, .int .i64 a0_1, .slice A0_2 l0_2.length c0_2], .int .i64 a1_0] rfl (by (try simp only [List.map_toArray, List.map_cons, List.map_nil]); first | done | rfl | (simp only [List.length_drop, List.length_take]; rfl)) ?_; (with_reducible refine (rampartref18_place.calls k a0_0 a0_1 _ _ l0_2 a1_0 t365 _ ?side1 ?side2 A5.out).mono ?_); (case side1 => repeat (first | exact (Kd.C_below HR0_2.out HB.out) | (with_reducible refine Kd.C_alloc ?_ _) | (with_reducible refine Kd.C_drewN ?_ _) | (with_reducible refine Kd.C_drew ?_))); (case side2 => exact HC0_2.out); rintro e w37 ⟨rfl, hb⟩; refine ⟨_, rfl, ?_⟩; have n0_ := Aside0.mk (blk_below (stp BK361) hb); have n1_ := Aside0.mk (blk_below (stp BK362) hb); have n2_ := Aside0.mk (blk_below (stp BK363) hb); have n3_ := Aside0.mk (below_step (by repeat (first | (with_reducible first | exact HB.out | apply below_alloc | apply pw_below_drewN | apply below_drew1 | refine below_set ?_ GE361.out | refine below_set ?_ GE362.out | refine below_set ?_ GE363.out) | exact HB.out)) hb); clear BK361; clear BK362; clear BK363; clear HB; have BK361 := n0_; have BK362 := n1_; have BK363 := n2_; have HB := n3_; clear n0_ n1_ n2_ n3_; (try clear hb); (try clear hb2); (try clear hk); (try clear hi); have hcz38_0 : w37.cell? ⟨gb361, 0, none⟩ = some (.int .i64 a0_0) := (blk_cell BK361.out 0).trans rfl; have hcz38_1 : w37.cell? ⟨gb361, 1, none⟩ = some (.int .i64 a0_1) := (blk_cell BK361.out 1).trans rfl; have hcz38_2 : w37.cell? ⟨gb361, 2, none⟩ = some (.slice A0_2 l0_2.length c0_2) := (blk_cell BK361.out 2).trans rfl; have hfz38_0 := blk_frozen BK361.out 0; have hfz38_1 := blk_frozen BK361.out 1; have hfz38_2 := blk_frozen BK361.out 2) | ((with_reducible refine gate_dst (N := 7) rfl ?_); refine box_event ?hg (N := 7) ?hd (cs := #[.int .i64 0, .int .i64 0, .slice none 0 0]) (t := 24) ?hr ?_; (case hd => rfl); (case hg => rfl); (case hr => first | (go_simp; done) | (go_simp; rfl)); intro gb366 hg w39 hbox hb; have ⟨n0_, n7_, n8_⟩ := pkK (stp BK361) hb hg; have ⟨n1_, n9_, n10_⟩ := pkK (stp BK362) hb hg; have ⟨n2_, n11_, n12_⟩ := pkK (stp BK363) hb hg; have ⟨n3_, n5_⟩ := pkB (w := w) (by repeat (first | (with_reducible first | exact HB.out | apply below_alloc | apply pw_below_drewN | apply below_drew1 | refine below_set ?_ GE361.out | refine below_set ?_ GE362.out | refine below_set ?_ GE363.out) | exact HB.out)) hb hg; have n6_ := n5_; have n4_ := Aside0.mk (hbox); clear BK361; clear BK362; clear BK363; clear HB; have BK361 := n0_; have BK362 := n1_; have BK363 := n2_; have HB := n3_; have BK366 := n4_; have GW366 := n5_; have GE366 := n6_; have NB361_366 := n7_; have NB366_361 := n8_; have NB362_366 := n9_; have NB366_362 := n10_; have NB363_366 := n11_; have NB366_363 := n12_; clear n0_ n1_ n2_ n3_ n4_ n5_ n6_ n7_ n8_ n9_ n10_ n11_ n12_; clear hb hbox hg; have hnb40 := NB366_361.out; have hnc40 := NB361_366.out; have hnb41 := NB366_362.out; have hnc41 := NB362_366.out; have hnb42 := NB366_363.out; have hnc42 := NB363_366.out; have hcz43_0 : w39.cell? ⟨gb366, 0, none⟩ = some (.int .i64 0) := (blk_cell BK366.out 0).trans rfl; have hcz43_1 : w39.cell? ⟨gb366, 1, none⟩ = some (.int .i64 0) := (blk_cell BK366.out 1).trans rfl; have hcz43_2 : w39.cell? ⟨gb366, 2, none⟩ = some (.slice none 0 0) := (blk_cell BK366.out 2).trans rfl; have hfz43_0 := blk_frozen BK366.out 0; have hfz43_1 := blk_frozen BK366.out 1; have hfz43_2 := blk_frozen BK366.out 2; have hcz44_0 : w39.cell? ⟨gb362, 0, none⟩ = some (.int .i64 a1_0) := (blk_cell BK362.out 0).trans rfl; have hcz44_1 : w39.cell? ⟨gb362, 1, none⟩ = some (.int .u8 a1_1) := (blk_cell BK362.out 1).trans rfl; have hcz44_2 : w39.cell? ⟨gb362, 2, none⟩ = some (.int .u8 a1_2) := (blk_cell BK362.out 2).trans rfl; have hcz44_3 : w39.cell? ⟨gb362, 3, none⟩ = some (.int .u8 a1_3) := (blk_cell BK362.out 3).trans rfl; have hcz44_4 : w39.cell? ⟨gb362, 4, none⟩ = some (.int .u32 a1_4) := (blk_cell BK362.out 4).trans rfl; have hcz44_5 : w39.cell? ⟨gb362, 5, none⟩ = some (.int .u64 a1_5) := (blk_cell BK362.out 5).trans rfl; have hcz44_6 : w39.cell? ⟨gb362, 6, none⟩ = some (.int .i64 a1_6) := (blk_cell BK362.out 6).trans rfl; have hcz44_7 : w39.cell? ⟨gb362, 7, none⟩ = some (.int .i64 a1_7) := (blk_cell BK362.out 7).trans rfl; have hcz44_8 : w39.cell? ⟨gb362, 8, none⟩ = some (.int .i64 a1_8) := (blk_cell BK362.out 8).trans rfl; have hcz44_9 : w39.cell? ⟨gb362, 9, none⟩ = some (.int .u64 a1_9) := (blk_cell BK362.out 9).trans rfl; have hcz44_10 : w39.cell? ⟨gb362, 10, none⟩ = some (.int .u64 a1_10) := (blk_cell BK362.out 10).trans rfl; have hcz44_11 : w39.cell? ⟨gb362, 11, none⟩ = some (.int .u64 a1_11) := (blk_cell BK362.out 11).trans rfl; have hfz44_0 := blk_frozen BK362.out 0; have hfz44_1 := blk_frozen BK362.out 1; have hfz44_2 := blk_frozen BK362.out 2; have hfz44_3 := blk_frozen BK362.out 3; have hfz44_4 := blk_frozen BK362.out 4; have hfz44_5 := blk_frozen BK362.out 5; have hfz44_6 := blk_frozen BK362.out 6; have hfz44_7 := blk_frozen BK362.out 7; have hfz44_8 := blk_frozen BK362.out 8; have hfz44_9 := blk_frozen BK362.out 9; have hfz44_10 := blk_frozen BK362.out 10; have hfz44_11 := blk_frozen BK362.out 11))
          have n0_ : Aside0 ((((w39.setCell ⟨gb366, 0, none⟩ (.int .i64 a0_0)).setCell ⟨gb366, 1, none⟩ (.int .i64 a0_1)).setCell ⟨gb366, 2, none⟩ (.slice none 0 0)).heap[gb361]? = some (.cells #[.int .i64 a0_0, .int .i64 a0_1, .slice A0_2 l0_2.length c0_2] 24 (0, 0))) := ⟨by refine stq ?_; refine blk_far ?_ NB361_366.out _; refine stq ?_; refine blk_far ?_ NB361_366.out _; refine stq ?_; refine blk_far ?_ NB361_366.out _; refine stq ?_; exact BK361.out⟩
          have n1_ : Aside0 ((((w39.setCell ⟨gb366, 0, none⟩ (.int .i64 a0_0)).setCell ⟨gb366, 1, none⟩ (.int .i64 a0_1)).setCell ⟨gb366, 2, none⟩ (.slice none 0 0)).heap[gb362]? = some (.cells #[.int .i64 a1_0, .int .u8 a1_1, .int .u8 a1_2, .int .u8 a1_3, .int .u32 a1_4, .int .u64 a1_5, .int .i64 a1_6, .int .i64 a1_7, .int .i64 a1_8, .int .u64 a1_9, .int .u64 a1_10, .int .u64 a1_11] 42 (0, 0))) := ⟨by refine stq ?_; refine blk_far ?_ NB362_366.out _; refine stq ?_; refine blk_far ?_ NB362_366.out _; refine stq ?_; refine blk_far ?_ NB362_366.out _; refine stq ?_; exact BK362.out⟩
          have n2_ : Aside0 ((((w39.setCell ⟨gb366, 0, none⟩ (.int .i64 a0_0)).setCell ⟨gb366, 1, none⟩ (.int .i64 a0_1)).setCell ⟨gb366, 2, none⟩ (.slice none 0 0)).heap[gb363]? = some (.cells #[.int .i64 0, .int .i64 0, .slice none 0 0] 24 (0, 0))) := ⟨by refine stq ?_; refine blk_far ?_ NB363_366.out _; refine stq ?_; refine blk_far ?_ NB363_366.out _; refine stq ?_; refine blk_far ?_ NB363_366.out _; refine stq ?_; exact BK363.out⟩
          have n3_ : Aside0 ((((w39.setCell ⟨gb366, 0, none⟩ (.int .i64 a0_0)).setCell ⟨gb366, 1, none⟩ (.int .i64 a0_1)).setCell ⟨gb366, 2, none⟩ (.slice none 0 0)).heap[gb366]? = some (.cells #[.int .i64 a0_0, .int .i64 a0_1, .slice none 0 0] 24 (0, 0))) := ⟨by refine stq ?_; refine blk_put (cs := #[.int .i64 a0_0, .int .i64 a0_1, .slice none 0 0]) ?_ 2 _ rfl; refine stq ?_; refine blk_put (cs := #[.int .i64 a0_0, .int .i64 0, .slice none 0 0]) ?_ 1 _ rfl; refine stq ?_; refine blk_put (cs := #[.int .i64 0, .int .i64 0, .slice none 0 0]) ?_ 0 _ rfl; refine stq ?_; exact BK366.out⟩
          have n4_ : Aside0 (Below w.heap.size w (((w39.setCell ⟨gb366, 0, none⟩ (.int .i64 a0_0)).setCell ⟨gb366, 1, none⟩ (.int .i64 a0_1)).setCell ⟨gb366, 2, none⟩ (.slice none 0 0))) := ⟨by repeat (first | (with_reducible first | exact HB.out | apply below_alloc | apply pw_below_drewN | apply below_drew1 | refine below_set ?_ GE361.out | refine below_set ?_ GE362.out | refine below_set ?_ GE363.out | refine below_set ?_ GE366.out) | exact HB.out)⟩
          (try clear BK361)
          (try clear BK362)
          (try clear BK363)
          (try clear BK366)
          (try clear HB)
          generalize (((w39.setCell ⟨gb366, 0, none⟩ (.int .i64 a0_0)).setCell ⟨gb366, 1, none⟩ (.int .i64 a0_1)).setCell ⟨gb366, 2, none⟩ (.slice none 0 0)) = w45 at n0_ n1_ n2_ n3_ n4_ ⊢
          have BK361 := n0_
          have BK362 := n1_
          have BK363 := n2_
          have BK366 := n3_
          have HB := n4_
          clear n0_ n1_ n2_ n3_ n4_
          have n0_ := Aside0.mk (blk_drew BK361.out)
          have n1_ := Aside0.mk (blk_drew BK362.out)
          have n2_ := Aside0.mk (blk_drew BK363.out)
          have n3_ := Aside0.mk (blk_drew BK366.out)
          have n4_ := Aside0.mk (below_drew1 HB.out)
          clear BK361
          clear BK362
          clear BK363
          clear BK366
          clear HB
          have BK361 := n0_
          have BK362 := n1_
          have BK363 := n2_
          have BK366 := n3_
          have HB := n4_
          clear n0_ n1_ n2_ n3_ n4_
          have q47 : (t365 : Int) ≤ ((l0_2.length : Int) : Int) := of_decide_eq_true (by first | (with_reducible assumption) | assumption)
          obtain ⟨i047, hi047, _, hsz47, _⟩ := info_parts info42
          have hroom47 : l0_2.length ≤ c0_2 := HC0_2.out
          have hC47 : Kd.C k42 _ A0_2 l0_2.length l0_2 := HR0_2.out
          have hcut47 := cut_to (P := Try.prog) 22 42 .i64 Try.underlying22 hi047 A0_2 l0_2.length c0_2 t365 (of_decide_eq_true (by first | (with_reducible assumption) | assumption)) q47 hroom47
          have hr47 := Kd.C_take (m := (t365 : Int).toNat) hC47 (by omega)
          have hy47 : y370.length = (t365 : Int).toNat := (by rw [Ny370.out, List.length_take]; omega)
          rw [← Ny370.out] at hr47
          rw [← hy47] at hcut47
          have HR373 := Aside0.mk hr47
          have HC373 := Aside0.mk (show y370.length ≤ c0_2 from by omega)
          clear hr47 hC47 hroom47 hi047 hsz47
          have KY47 := Aside0.mk hy47
          clear hy47
          replace q47 := eq_true q47
          have q48 : ((ji23) : Int) ≤ ((l0_2.length : Int) : Int) := of_decide_eq_true (by first | (with_reducible assumption) | assumption)
          obtain ⟨i048, hi048, _, hsz48, _⟩ := info_parts info42
          have hroom48 : l0_2.length ≤ c0_2 := HC0_2.out
          have hC48 : Kd.C k42 _ A0_2 l0_2.length l0_2 := HR0_2.out
          have q048 : (0 : Int) ≤ ((ji23) : Int) := of_decide_eq_true (by first | (with_reducible assumption) | assumption)
          have hcut48 := cut_from (P := Try.prog) 22 42 .i64 Try.underlying22 hi048 12 hsz48 A0_2 l0_2.length c0_2 (ji23) q048 q48
          have hr48 := Kd.C_drop (m := ((ji23) : Int).toNat) (c := c0_2) hC48 (by omega) hroom48
          obtain ⟨A48, hA48⟩ : ∃ A1, A1 = (if c0_2 = ((ji23) : Int).toNat then A0_2 else (A0_2 : Option Addr).map (·.add (((ji23) : Int).toNat * 12))) := ⟨_, rfl⟩
          obtain ⟨c48, hc48⟩ : ∃ c1, c1 = c0_2 - ((ji23) : Int).toNat := ⟨_, rfl⟩
          have hy48 : y377.length = l0_2.length - ((ji23) : Int).toNat := (by rw [Ny377.out, List.length_drop] <;> omega)
          rw [show (l0_2).drop ((ji23) : Int).toNat = y377 from Ny377.out.symm] at hr48
          replace hr48 : Kd.C k42 _ A48 y377.length y377 := (by rw [hA48]; exact hr48)
          rw [← hy48, ← hA48, ← hc48] at hcut48
          have HR380 := Aside0.mk hr48
          have HC380 := Aside0.mk (show y377.length ≤ c48 from by rw [hy48, hc48]; exact Nat.sub_le_sub_right hroom48 _)
          clear hr48 hC48 hroom48 hi048 hsz48 hc48
          have KY48 := Aside0.mk hy48
          have KA48 := Aside0.mk hA48
          clear hy48 hA48
          replace q48 := eq_true q48
          refine start_ (n := 14) (S := fun w' => w'.cell? ⟨gb361, 0, none⟩ = some (.int .i64 a0_0) ∧ w'.cell? ⟨gb361, 1, none⟩ = some (.int .i64 a0_1) ∧ w'.cell? ⟨gb361, 2, none⟩ = some (.slice A0_2 l0_2.length c0_2)) (ds := []) #[false, false, false, false, false, false, false, false, false, false, false, false, false, false] (by kernel_rfl) rfl rfl ⟨(blk_cell BK361.out 0).trans rfl, (blk_cell BK361.out 1).trans rfl, (blk_cell BK361.out 2).trans rfl⟩ (fun hHeld => ?_); refine with_tabW rampartref18_Set.tab8 rampartref18_Set.bits8 (fun HT_ HW_ => ?_)
          generalize w45.drew = w46 at BK361 BK362 BK363 BK366 HB HR373 HR380 hHeld ⊢
          refine pure_ (i := 1) (N := some 28) (v := ?_) (a' := ?_) #[false, true, false, false, false, false, false, false, false, false, false, false, false, false] rfl rfl (any_of HT_.out (by kernel_rfl)) (fun _ _ _ h => h) (Or.inl ⟨by rfl, ?_⟩) ?_ ?_
          rotate_left
          ·intro w'
           go_simp
           with_reducible rfl
          rotate_left
          ·simp only [Act.put, List.setIfInBounds_toArray, List.set_cons_zero, List.set_cons_succ, i64_w, i32_w]
           rfl
          refine pure_ (i := 3) (N := some 30) (v := ?_) (a' := ?_) #[false, true, false, true, false, false, false, false, false, false, false, false, false, false] rfl rfl (any_of HT_.out (by kernel_rfl)) (fun _ _ _ h => h) (Or.inl ⟨by rfl, ?_⟩) ?_ ?_
          rotate_left
          ·intro w'
           go_simp
           with_reducible rfl
          rotate_left
          ·simp only [Act.put, List.setIfInBounds_toArray, List.set_cons_zero, List.set_cons_succ, i64_w, i32_w]
           rfl
          refine pure_ (i := 6) (N := some 33) (v := ?_) (a' := ?_) #[false, true, false, true, false, false, true, false, false, false, false, false, false, false] rfl rfl (any_of HT_.out (by kernel_rfl)) (fun _ _ _ h => h) (Or.inl ⟨by rfl, ?_⟩) ?_ ?_
          rotate_left
          ·intro w'
           go_simp
           with_reducible rfl
          rotate_left
          ·simp only [Act.put, List.setIfInBounds_toArray, List.set_cons_zero, List.set_cons_succ, i64_w, i32_w]
           rfl
          refine pure_ (i := 8) (N := some 35) (v := ?_) (a' := ?_) #[false, true, false, true, false, false, true, false, true, false, false, false, false, false] rfl rfl (any_of HT_.out (by kernel_rfl)) (fun _ _ _ h => h) (Or.inl ⟨by rfl, ?_⟩) ?_ ?_
          rotate_left
          ·intro w'
           go_simp
           with_reducible rfl
          rotate_left
          ·simp only [Act.put, List.setIfInBounds_toArray, List.set_cons_zero, List.set_cons_succ, i64_w, i32_w]
           rfl
          refine pure_ (i := 9) (N := some 36) (v := ?_) (a' := ?_) #[false, true, false, true, false, false, true, false, true, true, false, false, false, false] rfl rfl (any_of HT_.out (by kernel_rfl)) (fun _ _ _ h => h) (Or.inl ⟨by rfl, ?_⟩) ?_ ?_
          rotate_left
          ·intro w'
           go_simp
           with_reducible rfl
          rotate_left
          ·simp only [Act.put, List.setIfInBounds_toArray, List.set_cons_zero, List.set_cons_succ, i64_w, i32_w]
           rfl
          refine take_ (i := 2) (N := some 29) (v := ?_) (a' := ?_) #[false, true, true, true, false, false, true, false, true, true, false, false, false, false] rfl rfl (take_ofW HT_.out HW_.out (by kernel_rfl)) (fun _ _ _ h => h) (Or.inl ⟨by rfl, ?_⟩) hHeld ?_ ?_
          rotate_left
          ·rintro w' ⟨s0, s1, s2⟩
           go_simp
           with_reducible rfl
          rotate_left
          ·simp only [Act.put, List.setIfInBounds_toArray, List.set_cons_zero, List.set_cons_succ, i64_w, i32_w]
           rfl
          refine pure_ (i := 4) (N := some 31) (v := ?_) (a' := ?_) #[false, true, true, true, true, false, true, false, true, true, false, false, false, false] rfl rfl (any_of HT_.out (by kernel_rfl)) (fun _ _ _ h => h) (Or.inl ⟨by rfl, ?_⟩) ?_ ?_
          rotate_left
          ·intro w'
           go_simp
           with_reducible rfl
          rotate_left
          ·simp only [Act.put, List.setIfInBounds_toArray, List.set_cons_zero, List.set_cons_succ, i64_w, i32_w]
           rfl
          refine take_ (i := 7) (N := some 34) (v := ?_) (a' := ?_) #[false, true, true, true, true, false, true, true, true, true, false, false, false, false] rfl rfl (take_ofW HT_.out HW_.out (by kernel_rfl)) (fun _ _ _ h => h) (Or.inl ⟨by rfl, ?_⟩) hHeld ?_ ?_
          rotate_left
          ·rintro w' ⟨s0, s1, s2⟩
           go_simp
           with_reducible rfl
          rotate_left
          ·simp only [Act.put, List.setIfInBounds_toArray, List.set_cons_zero, List.set_cons_succ, i64_w, i32_w]
           rfl
          refine pure_ (i := 10) (N := some 37) (v := ?_) (a' := ?_) #[false, true, true, true, true, false, true, true, true, true, true, false, false, false] rfl rfl (any_of HT_.out (by kernel_rfl)) (fun _ _ _ h => h) (Or.inl ⟨by rfl, ?_⟩) ?_ ?_
          rotate_left
          ·intro w'
           go_simp
           with_reducible rfl
          rotate_left
          ·simp only [Act.put, List.setIfInBounds_toArray, List.set_cons_zero, List.set_cons_succ, i64_w, i32_w]
           rfl
          refine one_ (i := 0) (N := some 27) #[true, true, true, true, true, false, true, true, true, true, true, false, false, false] rfl rfl (one_of HT_.out (by kernel_rfl)) (by decide) (fun K hK => ?_)
          refine Kd.R_lit_step k42 _ 42 ?hg (N := 27) ?hd (xs := ([] : List (S42))) (inner := []) (ok := fun _ => True) (okp := fun _ => True) ?hr ?hp (fun _ hk => hk) trivial (Below.refl _ _) (Nat.le_refl _) (by simp) ?_; (case hd => rfl); (case hg => rfl); (case hr => first | (go_simp; done) | (go_simp; rfl)); (case hp => exact (Reps.none _ _))
          intro v368 w49 ho50 hb hg_ hnew_
          clear hg_ hnew_
          (first | rw [← Ny367.out] at ho50 | (simp only [Int.reduceToNat] at ho50; rw [← Ny367.out] at ho50))
          have n0_ := Aside0.mk (Kd.R_lower (Kd.R_newB ho50 (g := gb362) (o := .cells #[.int .i64 a1_0, .int .u8 a1_1, .int .u8 a1_2, .int .u8 a1_3, .int .u32 a1_4, .int .u64 a1_5, .int .i64 a1_6, .int .i64 a1_7, .int .i64 a1_8, .int .u64 a1_9, .int .u64 a1_10, .int .u64 a1_11] 42 (0, 0)) (stp BK362)) (below_size (by repeat (first | (with_reducible first | exact HB.out | apply below_alloc | apply pw_below_drewN | apply below_drew1 | refine below_set ?_ GE361.out | refine below_set ?_ GE362.out | refine below_set ?_ GE363.out | refine below_set ?_ GE366.out) | exact HB.out))))
          have n1_ := Aside0.mk (blk_below (stp BK361) hb)
          have n2_ := Aside0.mk (blk_below (stp BK362) hb)
          have n3_ := Aside0.mk (blk_below (stp BK363) hb)
          have n4_ := Aside0.mk (blk_below (stp BK366) hb)
          have n5_ := Aside0.mk (below_step (by repeat (first | (with_reducible first | exact HB.out | apply below_alloc | apply pw_below_drewN | apply below_drew1 | refine below_set ?_ GE361.out | refine below_set ?_ GE362.out | refine below_set ?_ GE363.out | refine below_set ?_ GE366.out) | exact HB.out)) hb)
          clear BK361
          clear BK362
          clear BK363
          clear BK366
          clear HB
          have HO369 := n0_
          have BK361 := n1_
          have BK362 := n2_
          have BK363 := n3_
          have BK366 := n4_
          have HB := n5_
          clear n0_ n1_ n2_ n3_ n4_ n5_
          clear hb ho50
          refine hK.out _ _ ⟨(blk_cell BK361.out 0).trans rfl, (blk_cell BK361.out 1).trans rfl, (blk_cell BK361.out 2).trans rfl⟩ (fun hHeld => ?_)
          clear hK K
          refine norm_ (a' := ?_) ?_ ?_
          rotate_left
          ·show Act.put _ (some 27) _ = _
           simp only [Act.put, List.setIfInBounds_toArray, List.set_cons_zero, List.set_cons_succ, i64_w, i32_w]
           rfl
          refine one_ (i := 5) (N := some 32) #[true, true, true, true, true, true, true, true, true, true, true, false, false, false] rfl rfl (one_of HT_.out (by kernel_rfl)) (by decide) (fun K hK => ?_)
          refine Kd.R_append_rows_step k42 (w0 := w) w.heap.size (by rfl) (.tmp 27) (.tmp 31) 22 42 (.agg #[(.int .i64 0), (.int .u8 0), (.int .u8 0), (.int .u8 0), (.int .u32 0), (.int .u64 0), (.int .i64 0), (.int .i64 0), (.int .i64 0), (.int .u64 0), (.int .u64 0), (.int .u64 0)]) 72 rfl Try.underlying22 info42 rfl (by decide) (by omega) v368 y367 y370 _ _ _ (fun k_ => k_ ≠ gb362) (fun _ => False) rfl rfl ?aO ?aR (fun _ _ h => h) (fun _ h => h.elim) ?aF ?aB ?aS ?aL ?_
          (case aR => repeat (first | exact (Kd.C_below HR373.out HB.out) | (with_reducible refine Kd.C_alloc ?_ _) | (with_reducible refine Kd.C_drewN ?_ _) | (with_reducible refine Kd.C_drew ?_)))
          (case aB => exact (by repeat (first | (with_reducible first | exact HB.out | apply below_alloc | apply pw_below_drewN | apply below_drew1 | refine below_set ?_ GE361.out | refine below_set ?_ GE362.out | refine below_set ?_ GE363.out | refine below_set ?_ GE366.out) | exact HB.out)))
          (case aF => exact (fun k_ hk => Kd.freshB (g := gb362) (o := .cells #[.int .i64 a1_0, .int .u8 a1_1, .int .u8 a1_2, .int .u8 a1_3, .int .u32 a1_4, .int .u64 a1_5, .int .i64 a1_6, .int .i64 a1_7, .int .i64 a1_8, .int .u64 a1_9, .int .u64 a1_10, .int .u64 a1_11] 42 (0, 0)) (stp BK362) k_ hk))
          (case aO => exact (by (with_reducible repeat (first | apply Kd.R_alloc | apply Kd.R_drewN | apply Kd.R_drew)); exact Kd.R_mono HO369.out (fun _ hk => hk.2)))
          (case aS => exact (below_size (by repeat (first | (with_reducible first | exact HB.out | apply below_alloc | apply pw_below_drewN | apply below_drew1 | refine below_set ?_ GE361.out | refine below_set ?_ GE362.out | refine below_set ?_ GE363.out | refine below_set ?_ GE366.out) | exact HB.out))))
          (case aL => have := LMc22.out; omega)
          intro v375 w51 ho hb hg hat
          rw [← Ny374.out] at ho
          have n0_ := Aside0.mk (blk_grown (g := gb361) (o := .cells #[.int .i64 a0_0, .int .i64 a0_1, .slice A0_2 l0_2.length c0_2] 24 (0, 0)) (stp BK361) hg (Kd.R_ne HO369.out BK361.out (by decide)))
          have n1_ := Aside0.mk (blk_grown (g := gb362) (o := .cells #[.int .i64 a1_0, .int .u8 a1_1, .int .u8 a1_2, .int .u8 a1_3, .int .u32 a1_4, .int .u64 a1_5, .int .i64 a1_6, .int .i64 a1_7, .int .i64 a1_8, .int .u64 a1_9, .int .u64 a1_10, .int .u64 a1_11] 42 (0, 0)) (stp BK362) hg (Kd.R_away HO369.out (fun _ hk => hk.2)))
          have n2_ := Aside0.mk (blk_grown (g := gb363) (o := .cells #[.int .i64 0, .int .i64 0, .slice none 0 0] 24 (0, 0)) (stp BK363) hg (Kd.R_ne HO369.out BK363.out (by decide)))
          have n3_ := Aside0.mk (blk_grown (g := gb366) (o := .cells #[.int .i64 a0_0, .int .i64 a0_1, .slice none 0 0] 24 (0, 0)) (stp BK366) hg (Kd.R_ne HO369.out BK366.out (by decide)))
          have n4_ := Aside0.mk (hb)
          have n5_ := Aside0.mk (ho)
          clear BK361
          clear BK362
          clear BK363
          clear BK366
          clear HB
          clear HO369
          have BK361 := n0_
          have BK362 := n1_
          have BK363 := n2_
          have BK366 := n3_
          have HB := n4_
          have HO376 := n5_
          clear n0_ n1_ n2_ n3_ n4_ n5_
          clear ho hb hg hat
          refine hK.out _ _ ⟨(blk_cell BK361.out 0).trans rfl, (blk_cell BK361.out 1).trans rfl, (blk_cell BK361.out 2).trans rfl⟩ (fun hHeld => ?_)
          clear hK K
          refine norm_ (a' := ?_) ?_ ?_
          rotate_left
          ·show Act.put _ (some 32) _ = _
           simp only [Act.put, List.setIfInBounds_toArray, List.set_cons_zero, List.set_cons_succ, i64_w, i32_w]
           rfl
          refine one_ (i := 11) (N := some 38) #[true, true, true, true, true, true, true, true, true, true, true, true, false, false] rfl rfl (one_of HT_.out (by kernel_rfl)) (by decide) (fun K hK => ?_)
          refine Kd.R_append_rows_step k42 (w0 := w) w.heap.size (by rfl) (.tmp 32) (.tmp 37) 22 42 (.agg #[(.int .i64 0), (.int .u8 0), (.int .u8 0), (.int .u8 0), (.int .u32 0), (.int .u64 0), (.int .i64 0), (.int .i64 0), (.int .i64 0), (.int .u64 0), (.int .u64 0), (.int .u64 0)]) 72 rfl Try.underlying22 info42 rfl (by decide) (by omega) v375 y374 y377 _ _ _ (fun k_ => k_ ≠ gb362) (fun _ => False) rfl rfl ?aO ?aR (fun _ _ h => h) (fun _ h => h.elim) ?aF ?aB ?aS ?aL ?_
          (case aR => repeat (first | exact (Kd.C_below HR380.out HB.out) | (with_reducible refine Kd.C_alloc ?_ _) | (with_reducible refine Kd.C_drewN ?_ _) | (with_reducible refine Kd.C_drew ?_)))
          (case aB => exact (by repeat (first | (with_reducible first | exact HB.out | apply below_alloc | apply pw_below_drewN | apply below_drew1 | refine below_set ?_ GE361.out | refine below_set ?_ GE362.out | refine below_set ?_ GE363.out | refine below_set ?_ GE366.out) | exact HB.out)))
          (case aF => exact (fun k_ hk => Kd.freshB (g := gb362) (o := .cells #[.int .i64 a1_0, .int .u8 a1_1, .int .u8 a1_2, .int .u8 a1_3, .int .u32 a1_4, .int .u64 a1_5, .int .i64 a1_6, .int .i64 a1_7, .int .i64 a1_8, .int .u64 a1_9, .int .u64 a1_10, .int .u64 a1_11] 42 (0, 0)) (stp BK362) k_ hk))
          (case aO => exact (by (with_reducible repeat (first | apply Kd.R_alloc | apply Kd.R_drewN | apply Kd.R_drew)); exact HO376.out))
          (case aS => exact (below_size (by repeat (first | (with_reducible first | exact HB.out | apply below_alloc | apply pw_below_drewN | apply below_drew1 | refine below_set ?_ GE361.out | refine below_set ?_ GE362.out | refine below_set ?_ GE363.out | refine below_set ?_ GE366.out) | exact HB.out))))
          (case aL => have := LMc26.out; omega)
          intro v382 w52 ho hb hg hat
          rw [← Ny381.out] at ho
          have n0_ := Aside0.mk (blk_grown (g := gb361) (o := .cells #[.int .i64 a0_0, .int .i64 a0_1, .slice A0_2 l0_2.length c0_2] 24 (0, 0)) (stp BK361) hg (Kd.R_ne HO376.out BK361.out (by decide)))
          have n1_ := Aside0.mk (blk_grown (g := gb362) (o := .cells #[.int .i64 a1_0, .int .u8 a1_1, .int .u8 a1_2, .int .u8 a1_3, .int .u32 a1_4, .int .u64 a1_5, .int .i64 a1_6, .int .i64 a1_7, .int .i64 a1_8, .int .u64 a1_9, .int .u64 a1_10, .int .u64 a1_11] 42 (0, 0)) (stp BK362) hg (Kd.R_away HO376.out (fun _ hk => hk)))
          have n2_ := Aside0.mk (blk_grown (g := gb363) (o := .cells #[.int .i64 0, .int .i64 0, .slice none 0 0] 24 (0, 0)) (stp BK363) hg (Kd.R_ne HO376.out BK363.out (by decide)))
          have n3_ := Aside0.mk (blk_grown (g := gb366) (o := .cells #[.int .i64 a0_0, .int .i64 a0_1, .slice none 0 0] 24 (0, 0)) (stp BK366) hg (Kd.R_ne HO376.out BK366.out (by decide)))
          have n4_ := Aside0.mk (hb)
          have n5_ := Aside0.mk (ho)
          clear BK361
          clear BK362
          clear BK363
          clear BK366
          clear HB
          clear HO376
          have BK361 := n0_
          have BK362 := n1_
          have BK363 := n2_
          have BK366 := n3_
          have HB := n4_
          have HO383 := n5_
          clear n0_ n1_ n2_ n3_ n4_ n5_
          clear ho hb hg hat
          obtain ⟨Ao53, co53, eo53⟩ := Kd.R_slice HO383.out
          (first | subst eo53 | (injection eo53 with f1_ f2_ f3_; have f4_ := f1_.symm; have f5_ := f3_.symm; clear f1_ f2_ f3_; subst f4_; subst f5_))
          refine hK.out _ _ ⟨(blk_cell BK361.out 0).trans rfl, (blk_cell BK361.out 1).trans rfl, (blk_cell BK361.out 2).trans rfl⟩ (fun hHeld => ?_)
          clear hK K
          refine norm_ (a' := ?_) ?_ ?_
          rotate_left
          ·show Act.put _ (some 38) _ = _
           simp only [Act.put, List.setIfInBounds_toArray, List.set_cons_zero, List.set_cons_succ, i64_w, i32_w]
           rfl
          refine pure_ (i := 12) (N := some 39) (v := ?_) (a' := ?_) #[true, true, true, true, true, true, true, true, true, true, true, true, true, false] rfl rfl (any_of HT_.out (by kernel_rfl)) (fun _ _ _ h => h) (Or.inl ⟨by rfl, ?_⟩) ?_ ?_
          rotate_left
          ·intro w'
           go_simp
           with_reducible rfl
          rotate_left
          ·simp only [Act.put, List.setIfInBounds_toArray, List.set_cons_zero, List.set_cons_succ, i64_w, i32_w]
           rfl
          refine one_ (i := 13) (N := none) #[true, true, true, true, true, true, true, true, true, true, true, true, true, true] rfl rfl (one_of HT_.out (by kernel_rfl)) (by decide) (fun K hK => ?_)
          have hs54 : w52.cell? ⟨gb366, 2, none⟩ = some (.slice none 0 0) := (blk_cell BK366.out 2).trans rfl
          have hfs54 := blk_frozen BK366.out 2
          have hns54_0 := NB361_366.out
          have hns54_1 := NB362_366.out
          have hns54_2 := NB363_366.out
          have hms54_0 := NB366_361.out
          have hms54_1 := NB366_362.out
          have hms54_2 := NB366_363.out
          refine skip_ (w1 := ?_) (by rfl) rfl ?_ ?_
          rotate_left
          ·go_simp
           rfl
          refine hK.out _ _ ⟨((cell_far (p := ⟨gb366, _, none⟩) NB361_366.out _).trans (hHeld.1)), ((cell_far (p := ⟨gb366, _, none⟩) NB361_366.out _).trans (hHeld.2.1)), ((cell_far (p := ⟨gb366, _, none⟩) NB361_366.out _).trans (hHeld.2.2))⟩ (fun hHeld => ?_)
          clear hK K
          refine done_ (done_of HT_.out (by kernel_rfl)) ?_
          have hcz55_0 : w52.cell? ⟨gb366, 0, none⟩ = some (.int .i64 a0_0) := (blk_cell BK366.out 0).trans rfl
          have hcz55_1 : w52.cell? ⟨gb366, 1, none⟩ = some (.int .i64 a0_1) := (blk_cell BK366.out 1).trans rfl
          have hcz55_2 : w52.cell? ⟨gb366, 2, none⟩ = some (.slice none 0 0) := (blk_cell BK366.out 2).trans rfl
          have hfz55_0 := blk_frozen BK366.out 0
          have hfz55_1 := blk_frozen BK366.out 1
          have hfz55_2 := blk_frozen BK366.out 2
          have hcz56_0 : w52.cell? ⟨gb363, 0, none⟩ = some (.int .i64 0) := (blk_cell BK363.out 0).trans rfl
          have hcz56_1 : w52.cell? ⟨gb363, 1, none⟩ = some (.int .i64 0) := (blk_cell BK363.out 1).trans rfl
          have hcz56_2 : w52.cell? ⟨gb363, 2, none⟩ = some (.slice none 0 0) := (blk_cell BK363.out 2).trans rfl
          have hfz56_0 := blk_frozen BK363.out 0
          have hfz56_1 := blk_frozen BK363.out 1
          have hfz56_2 := blk_frozen BK363.out 2
          try go_wp2
          refine bodyPost_ret (results_ct rfl _ _ gb363 24 #[.int .i64 a0_0, .int .i64 a0_1, .slice Ao53 y381.length co53] (0, 0) _ rfl (by refine stq ?_; refine blk_put (cs := #[.int .i64 a0_0, .int .i64 a0_1, .slice none 0 0]) ?_ 2 _ rfl; refine stq ?_; refine blk_put (cs := #[.int .i64 a0_0, .int .i64 0, .slice none 0 0]) ?_ 1 _ rfl; refine stq ?_; refine blk_put (cs := #[.int .i64 0, .int .i64 0, .slice none 0 0]) ?_ 0 _ rfl; refine stq ?_; refine blk_far ?_ NB363_366.out _; refine stq ?_; exact BK363.out) Try.underlying24 rfl (by kernel_rfl)) rfl ?_
          exact ⟨_, by first | rfl | (simp [errW_none, errW_some] <;> rfl) | (simp only [← hji23]; first | rfl | (simp [errW_none, errW_some] <;> rfl)) | (simp [*, errW_none, errW_some] <;> rfl), by (with_reducible repeat (first | apply Kd.R_alloc | apply Kd.R_drewN | apply Kd.R_drew)); exact Kd.R_mono (Kd.R_far (p := ⟨gb363, 2, none⟩) (Kd.R_far (p := ⟨gb363, 1, none⟩) (Kd.R_far (p := ⟨gb363, 0, none⟩) (Kd.R_far (p := ⟨gb366, 2, none⟩) (Kd.R_types (Kd.R_types HO383.out BK366.out (by decide)) BK363.out (by decide)) (fun _ hk => hk.1.2) (.slice Ao53 y381.length co53)) (fun _ hk => hk.2) (.int .i64 a0_0)) (fun _ hk => hk.2) (.int .i64 a0_1)) (fun _ hk => hk.2) (.slice Ao53 y381.length co53)) (fun _ hk => trivial), by repeat (first | (with_reducible first | exact HB.out | apply below_alloc | apply pw_below_drewN | apply below_drew1 | refine below_set ?_ GE361.out | refine below_set ?_ GE362.out | refine below_set ?_ GE363.out | refine below_set ?_ GE366.out) | exact HB.out)⟩
         ·rw [if_neg c26] at H
          exact absurd H (by simp)
        ·rw [if_neg c25] at H
         exact absurd H (by simp)
       ·rw [if_neg c24] at H
        exact absurd H (by simp)
      ·rw [if_neg c22] at H
       exact absurd H (by simp)
     ·rw [if_neg c21] at H
      exact absurd H (by simp)
    ·rw [if_neg c20] at H
     exact absurd H (by simp)
   ·rw [if_neg c19] at H
    have c19b0 : (a1_6 == 7) = false := beq_eq_false_iff_ne.mpr c19
    have c19b1 : (a1_6 != 7) = true := bne_iff_ne.mpr c19
    replace H := Option.bind_eq_some_iff.mp H
    obtain ⟨t384, A570, H⟩ := H
    replace H : (if t384 = 0 then (some (0, 0, ([] : List (S42)), 1)) else (if 0 ≤ t365 then (if t365 < (l0_2.length : Int) then (if (!(a1_1 == ((rd_T42 l0_2 t365).f1.f0)) || (!(a1_2 == ((rd_T42 l0_2 t365).f1.f1)) || (!(a1_3 == ((rd_T42 l0_2 t365).f1.f2)) || (!(a1_4 == ((rd_T42 l0_2 t365).f1.f3)) || (!(a1_5 == ((rd_T42 l0_2 t365).f1.f4))))))) = true then (some (0, 0, ([] : List (S42)), 1)) else ((some (([] : List (S42)) : List (S42))).bind fun y386 => (if y386.length + l0_2.length < 1954687338268 then ((some (y386 ++ l0_2 : List (S42))).bind fun y389 => (if t365 < (y389.length : Int) then (some (a0_0, a0_1, (y389.set (t365 : Int).toNat (⟨a1_0, (⟨a1_1, a1_2, a1_3, a1_4, a1_5⟩ : S29), a1_6, a1_7, a1_8, (⟨a1_9, a1_10⟩ : S40), a1_11⟩ : S42)), 0)) else (none))) else (none)))) else (none)) else (none))) = some (r1, r2, r3, r4) := H
    have A57 := Aside0.mk A570
    clear A570
    by_cases c58 : t384 = 0
    ·rw [if_pos c58] at H
     have c58b0 : (t384 == 0) = true := beq_iff_eq.mpr c58
     have c58b1 : (t384 != 0) = false := bne_eq_false_iff_eq.mpr c58
     clear c58
     simp only [Option.some.injEq, Prod.mk.injEq] at H
     obtain ⟨rfl, rfl, rfl, rfl⟩ := H
     go_enter Try.func17, Try.ntmps17
     try go_wp2_with (first | ((with_reducible refine gate_dst (N := 2) rfl ?_); refine box_event ?hg (N := 2) ?hd (cs := #[.int .i64 a0_0, .int .i64 a0_1, .slice A0_2 l0_2.length c0_2]) (t := 24) ?hr ?_; (case hd => rfl); (case hg => rfl); (case hr => first | (go_simp; done) | (go_simp; rfl)); intro gb361 hg w59 hbox hb; have ⟨n0_, n2_⟩ := pkB (stb HB) hb hg; have n3_ := n2_; have n1_ := Aside0.mk (hbox); clear HB; have HB := n0_; have BK361 := n1_; have GW361 := n2_; have GE361 := n3_; clear n0_ n1_ n2_ n3_; clear hb hbox hg) | ((with_reducible refine gate_dst (N := 3) rfl ?_); refine box_event ?hg (N := 3) ?hd (cs := #[.int .i64 a1_0, .int .u8 a1_1, .int .u8 a1_2, .int .u8 a1_3, .int .u32 a1_4, .int .u64 a1_5, .int .i64 a1_6, .int .i64 a1_7, .int .i64 a1_8, .int .u64 a1_9, .int .u64 a1_10, .int .u64 a1_11]) (t := 42) ?hr ?_; (case hd => rfl); (case hg => rfl); (case hr => first | (go_simp; done) | (go_simp; rfl)); intro gb362 hg w60 hbox hb; have ⟨n0_, n5_, n6_⟩ := pkK (stp BK361) hb hg; have ⟨n1_, n3_⟩ := pkB (w := w) (by repeat (first | (with_reducible first | exact HB.out | apply below_alloc | apply pw_below_drewN | apply below_drew1 | refine below_set ?_ GE361.out) | exact HB.out)) hb hg; have n4_ := n3_; have n2_ := Aside0.mk (hbox); clear BK361; clear HB; have BK361 := n0_; have HB := n1_; have BK362 := n2_; have GW362 := n3_; have GE362 := n4_; have NB361_362 := n5_; have NB362_361 := n6_; clear n0_ n1_ n2_ n3_ n4_ n5_ n6_; clear hb hbox hg) | ((with_reducible refine gate_dst (N := 4) rfl ?_); refine box_event ?hg (N := 4) ?hd (cs := #[.int .i64 0, .int .i64 0, .slice none 0 0]) (t := 24) ?hr ?_; (case hd => rfl); (case hg => rfl); (case hr => first | (go_simp; done) | (go_simp; rfl)); intro gb363 hg w61 hbox hb; have ⟨n0_, n6_, n7_⟩ := pkK (stp BK361) hb hg; have ⟨n1_, n8_, n9_⟩ := pkK (stp BK362) hb hg; have ⟨n2_, n4_⟩ := pkB (w := w) (by repeat (first | (with_reducible first | exact HB.out | apply below_alloc | apply pw_below_drewN | apply below_drew1 | refine below_set ?_ GE361.out | refine below_set ?_ GE362.out) | exact HB.out)) hb hg; have n5_ := n4_; have n3_ := Aside0.mk (hbox); clear BK361; clear BK362; clear HB; have BK361 := n0_; have BK362 := n1_; have HB := n2_; have BK363 := n3_; have GW363 := n4_; have GE363 := n5_; have NB361_363 := n6_; have NB363_361 := n7_; have NB362_363 := n8_; have NB363_362 := n9_; clear n0_ n1_ n2_ n3_ n4_ n5_ n6_ n7_ n8_ n9_; clear hb hbox hg; have hnb62 := NB361_362.out; have hnc62 := NB362_361.out; have hnb63 := NB361_363.out; have hnc63 := NB363_361.out; have hcz64_0 : w61.cell? ⟨gb361, 0, none⟩ = some (.int .i64 a0_0) := (blk_cell BK361.out 0).trans rfl; have hcz64_1 : w61.cell? ⟨gb361, 1, none⟩ = some (.int .i64 a0_1) := (blk_cell BK361.out 1).trans rfl; have hcz64_2 : w61.cell? ⟨gb361, 2, none⟩ = some (.slice A0_2 l0_2.length c0_2) := (blk_cell BK361.out 2).trans rfl; have hfz64_0 := blk_frozen BK361.out 0; have hfz64_1 := blk_frozen BK361.out 1; have hfz64_2 := blk_frozen BK361.out 2) | ((with_reducible refine gate_callee (f := 21) rfl ?_); refine goesL_ (some 9) rfl rfl Try.func21 (by kernel_rfl) rfl #[.agg #[.int .i64 a0_0, .int .i64 a0_1, .slice A0_2 l0_2.length c0_2]] rfl (by (try simp only [List.map_toArray, List.map_cons, List.map_nil]); first | done | rfl | (simp only [List.length_drop, List.length_take]; rfl)) ?_; (with_reducible refine (rampartref18_Check.calls k a0_0 a0_1 _ _ l0_2 t364 _ ?side1 ?side2 A3.out).mono ?_); (case side1 => repeat (first | exact (Kd.C_below HR0_2.out HB.out) | (with_reducible refine Kd.C_alloc ?_ _) | (with_reducible refine Kd.C_drewN ?_ _) | (with_reducible refine Kd.C_drew ?_))); (case side2 => exact HC0_2.out); rintro e w65 ⟨rfl, hb⟩; refine ⟨_, rfl, ?_⟩; have n0_ := Aside0.mk (blk_below (stp BK361) hb); have n1_ := Aside0.mk (blk_below (stp BK362) hb); have n2_ := Aside0.mk (blk_below (stp BK363) hb); have n3_ := Aside0.mk (below_step (by repeat (first | (with_reducible first | exact HB.out | apply below_alloc | apply pw_below_drewN | apply below_drew1 | refine below_set ?_ GE361.out | refine below_set ?_ GE362.out | refine below_set ?_ GE363.out) | exact HB.out)) hb); clear BK361; clear BK362; clear BK363; clear HB; have BK361 := n0_; have BK362 := n1_; have BK363 := n2_; have HB := n3_; clear n0_ n1_ n2_ n3_; (try clear hb); (try clear hb2); (try clear hk); (try clear hi); have hcz66_0 : w65.cell? ⟨gb361, 0, none⟩ = some (.int .i64 a0_0) := (blk_cell BK361.out 0).trans rfl; have hcz66_1 : w65.cell? ⟨gb361, 1, none⟩ = some (.int .i64 a0_1) := (blk_cell BK361.out 1).trans rfl; have hcz66_2 : w65.cell? ⟨gb361, 2, none⟩ = some (.slice A0_2 l0_2.length c0_2) := (blk_cell BK361.out 2).trans rfl; have hfz66_0 := blk_frozen BK361.out 0; have hfz66_1 := blk_frozen BK361.out 1; have hfz66_2 := blk_frozen BK361.out 2; have hnb67 := NB362_363.out; have hnc67 := NB363_362.out; have hcz68_0 : w65.cell? ⟨gb362, 0, none⟩ = some (.int .i64 a1_0) := (blk_cell BK362.out 0).trans rfl; have hcz68_1 : w65.cell? ⟨gb362, 1, none⟩ = some (.int .u8 a1_1) := (blk_cell BK362.out 1).trans rfl; have hcz68_2 : w65.cell? ⟨gb362, 2, none⟩ = some (.int .u8 a1_2) := (blk_cell BK362.out 2).trans rfl; have hcz68_3 : w65.cell? ⟨gb362, 3, none⟩ = some (.int .u8 a1_3) := (blk_cell BK362.out 3).trans rfl; have hcz68_4 : w65.cell? ⟨gb362, 4, none⟩ = some (.int .u32 a1_4) := (blk_cell BK362.out 4).trans rfl; have hcz68_5 : w65.cell? ⟨gb362, 5, none⟩ = some (.int .u64 a1_5) := (blk_cell BK362.out 5).trans rfl; have hcz68_6 : w65.cell? ⟨gb362, 6, none⟩ = some (.int .i64 a1_6) := (blk_cell BK362.out 6).trans rfl; have hcz68_7 : w65.cell? ⟨gb362, 7, none⟩ = some (.int .i64 a1_7) := (blk_cell BK362.out 7).trans rfl; have hcz68_8 : w65.cell? ⟨gb362, 8, none⟩ = some (.int .i64 a1_8) := (blk_cell BK362.out 8).trans rfl; have hcz68_9 : w65.cell? ⟨gb362, 9, none⟩ = some (.int .u64 a1_9) := (blk_cell BK362.out 9).trans rfl; have hcz68_10 : w65.cell? ⟨gb362, 10, none⟩ = some (.int .u64 a1_10) := (blk_cell BK362.out 10).trans rfl; have hcz68_11 : w65.cell? ⟨gb362, 11, none⟩ = some (.int .u64 a1_11) := (blk_cell BK362.out 11).trans rfl; have hfz68_0 := blk_frozen BK362.out 0; have hfz68_1 := blk_frozen BK362.out 1; have hfz68_2 := blk_frozen BK362.out 2; have hfz68_3 := blk_frozen BK362.out 3; have hfz68_4 := blk_frozen BK362.out 4; have hfz68_5 := blk_frozen BK362.out 5; have hfz68_6 := blk_frozen BK362.out 6; have hfz68_7 := blk_frozen BK362.out 7; have hfz68_8 := blk_frozen BK362.out 8; have hfz68_9 := blk_frozen BK362.out 9; have hfz68_10 := blk_frozen BK362.out 10; have hfz68_11 := blk_frozen BK362.out 11) | ((with_reducible refine gate_callee (f := 30) rfl ?_); refine goesL_ (some 15) rfl rfl Try.func30 (by kernel_rfl) rfl #[.agg #[.int .i64 a0_0, .int .i64 a0_1, .slice A0_2 l0_2.length c0_2], .int .i64 a1_0] rfl (by (try simp only [List.map_toArray, List.map_cons, List.map_nil]); first | done | rfl | (simp only [List.length_drop, List.length_take]; rfl)) ?_; (with_reducible refine (rampartref18_place.calls k a0_0 a0_1 _ _ l0_2 a1_0 t365 _ ?side1 ?side2 A5.out).mono ?_); (case side1 => repeat (first | exact (Kd.C_below HR0_2.out HB.out) | (with_reducible refine Kd.C_alloc ?_ _) | (with_reducible refine Kd.C_drewN ?_ _) | (with_reducible refine Kd.C_drew ?_))); (case side2 => exact HC0_2.out); rintro e w69 ⟨rfl, hb⟩; refine ⟨_, rfl, ?_⟩; have n0_ := Aside0.mk (blk_below (stp BK361) hb); have n1_ := Aside0.mk (blk_below (stp BK362) hb); have n2_ := Aside0.mk (blk_below (stp BK363) hb); have n3_ := Aside0.mk (below_step (by repeat (first | (with_reducible first | exact HB.out | apply below_alloc | apply pw_below_drewN | apply below_drew1 | refine below_set ?_ GE361.out | refine below_set ?_ GE362.out | refine below_set ?_ GE363.out) | exact HB.out)) hb); clear BK361; clear BK362; clear BK363; clear HB; have BK361 := n0_; have BK362 := n1_; have BK363 := n2_; have HB := n3_; clear n0_ n1_ n2_ n3_; (try clear hb); (try clear hb2); (try clear hk); (try clear hi); have hcz70_0 : w69.cell? ⟨gb361, 0, none⟩ = some (.int .i64 a0_0) := (blk_cell BK361.out 0).trans rfl; have hcz70_1 : w69.cell? ⟨gb361, 1, none⟩ = some (.int .i64 a0_1) := (blk_cell BK361.out 1).trans rfl; have hcz70_2 : w69.cell? ⟨gb361, 2, none⟩ = some (.slice A0_2 l0_2.length c0_2) := (blk_cell BK361.out 2).trans rfl; have hfz70_0 := blk_frozen BK361.out 0; have hfz70_1 := blk_frozen BK361.out 1; have hfz70_2 := blk_frozen BK361.out 2) | ((with_reducible refine gate_dst (N := 7) rfl ?_); refine box_event ?hg (N := 7) ?hd (cs := #[.int .i64 0, .int .i64 0, .slice none 0 0]) (t := 24) ?hr ?_; (case hd => rfl); (case hg => rfl); (case hr => first | (go_simp; done) | (go_simp; rfl)); intro gb366 hg w71 hbox hb; have ⟨n0_, n7_, n8_⟩ := pkK (stp BK361) hb hg; have ⟨n1_, n9_, n10_⟩ := pkK (stp BK362) hb hg; have ⟨n2_, n11_, n12_⟩ := pkK (stp BK363) hb hg; have ⟨n3_, n5_⟩ := pkB (w := w) (by repeat (first | (with_reducible first | exact HB.out | apply below_alloc | apply pw_below_drewN | apply below_drew1 | refine below_set ?_ GE361.out | refine below_set ?_ GE362.out | refine below_set ?_ GE363.out) | exact HB.out)) hb hg; have n6_ := n5_; have n4_ := Aside0.mk (hbox); clear BK361; clear BK362; clear BK363; clear HB; have BK361 := n0_; have BK362 := n1_; have BK363 := n2_; have HB := n3_; have BK366 := n4_; have GW366 := n5_; have GE366 := n6_; have NB361_366 := n7_; have NB366_361 := n8_; have NB362_366 := n9_; have NB366_362 := n10_; have NB363_366 := n11_; have NB366_363 := n12_; clear n0_ n1_ n2_ n3_ n4_ n5_ n6_ n7_ n8_ n9_ n10_ n11_ n12_; clear hb hbox hg; have hnb72 := NB366_361.out; have hnc72 := NB361_366.out; have hnb73 := NB366_362.out; have hnc73 := NB362_366.out; have hnb74 := NB366_363.out; have hnc74 := NB363_366.out; have hcz75_0 : w71.cell? ⟨gb366, 0, none⟩ = some (.int .i64 0) := (blk_cell BK366.out 0).trans rfl; have hcz75_1 : w71.cell? ⟨gb366, 1, none⟩ = some (.int .i64 0) := (blk_cell BK366.out 1).trans rfl; have hcz75_2 : w71.cell? ⟨gb366, 2, none⟩ = some (.slice none 0 0) := (blk_cell BK366.out 2).trans rfl; have hfz75_0 := blk_frozen BK366.out 0; have hfz75_1 := blk_frozen BK366.out 1; have hfz75_2 := blk_frozen BK366.out 2; have hcz76_0 : w71.cell? ⟨gb362, 0, none⟩ = some (.int .i64 a1_0) := (blk_cell BK362.out 0).trans rfl; have hcz76_1 : w71.cell? ⟨gb362, 1, none⟩ = some (.int .u8 a1_1) := (blk_cell BK362.out 1).trans rfl; have hcz76_2 : w71.cell? ⟨gb362, 2, none⟩ = some (.int .u8 a1_2) := (blk_cell BK362.out 2).trans rfl; have hcz76_3 : w71.cell? ⟨gb362, 3, none⟩ = some (.int .u8 a1_3) := (blk_cell BK362.out 3).trans rfl; have hcz76_4 : w71.cell? ⟨gb362, 4, none⟩ = some (.int .u32 a1_4) := (blk_cell BK362.out 4).trans rfl; have hcz76_5 : w71.cell? ⟨gb362, 5, none⟩ = some (.int .u64 a1_5) := (blk_cell BK362.out 5).trans rfl; have hcz76_6 : w71.cell? ⟨gb362, 6, none⟩ = some (.int .i64 a1_6) := (blk_cell BK362.out 6).trans rfl; have hcz76_7 : w71.cell? ⟨gb362, 7, none⟩ = some (.int .i64 a1_7) := (blk_cell BK362.out 7).trans rfl; have hcz76_8 : w71.cell? ⟨gb362, 8, none⟩ = some (.int .i64 a1_8) := (blk_cell BK362.out 8).trans rfl; have hcz76_9 : w71.cell? ⟨gb362, 9, none⟩ = some (.int .u64 a1_9) := (blk_cell BK362.out 9).trans rfl; have hcz76_10 : w71.cell? ⟨gb362, 10, none⟩ = some (.int .u64 a1_10) := (blk_cell BK362.out 10).trans rfl; have hcz76_11 : w71.cell? ⟨gb362, 11, none⟩ = some (.int .u64 a1_11) := (blk_cell BK362.out 11).trans rfl; have hfz76_0 := blk_frozen BK362.out 0; have hfz76_1 := blk_frozen BK362.out 1; have hfz76_2 := blk_frozen BK362.out 2; have hfz76_3 := blk_frozen BK362.out 3; have hfz76_4 := blk_frozen BK362.out 4; have hfz76_5 := blk_frozen BK362.out 5; have hfz76_6 := blk_frozen BK362.out 6; have hfz76_7 := blk_frozen BK362.out 7; have hfz76_8 := blk_frozen BK362.out 8; have hfz76_9 := blk_frozen BK362.out 9; have hfz76_10 := blk_frozen BK362.out 10; have hfz76_11 := blk_frozen BK362.out 11))
     have n0_ : Aside0 ((((w71.setCell ⟨gb366, 0, none⟩ (.int .i64 a0_0)).setCell ⟨gb366, 1, none⟩ (.int .i64 a0_1)).setCell ⟨gb366, 2, none⟩ (.slice none 0 0)).heap[gb361]? = some (.cells #[.int .i64 a0_0, .int .i64 a0_1, .slice A0_2 l0_2.length c0_2] 24 (0, 0))) := ⟨by refine stq ?_; refine blk_far ?_ NB361_366.out _; refine stq ?_; refine blk_far ?_ NB361_366.out _; refine stq ?_; refine blk_far ?_ NB361_366.out _; refine stq ?_; exact BK361.out⟩
     have n1_ : Aside0 ((((w71.setCell ⟨gb366, 0, none⟩ (.int .i64 a0_0)).setCell ⟨gb366, 1, none⟩ (.int .i64 a0_1)).setCell ⟨gb366, 2, none⟩ (.slice none 0 0)).heap[gb362]? = some (.cells #[.int .i64 a1_0, .int .u8 a1_1, .int .u8 a1_2, .int .u8 a1_3, .int .u32 a1_4, .int .u64 a1_5, .int .i64 a1_6, .int .i64 a1_7, .int .i64 a1_8, .int .u64 a1_9, .int .u64 a1_10, .int .u64 a1_11] 42 (0, 0))) := ⟨by refine stq ?_; refine blk_far ?_ NB362_366.out _; refine stq ?_; refine blk_far ?_ NB362_366.out _; refine stq ?_; refine blk_far ?_ NB362_366.out _; refine stq ?_; exact BK362.out⟩
     have n2_ : Aside0 ((((w71.setCell ⟨gb366, 0, none⟩ (.int .i64 a0_0)).setCell ⟨gb366, 1, none⟩ (.int .i64 a0_1)).setCell ⟨gb366, 2, none⟩ (.slice none 0 0)).heap[gb363]? = some (.cells #[.int .i64 0, .int .i64 0, .slice none 0 0] 24 (0, 0))) := ⟨by refine stq ?_; refine blk_far ?_ NB363_366.out _; refine stq ?_; refine blk_far ?_ NB363_366.out _; refine stq ?_; refine blk_far ?_ NB363_366.out _; refine stq ?_; exact BK363.out⟩
     have n3_ : Aside0 ((((w71.setCell ⟨gb366, 0, none⟩ (.int .i64 a0_0)).setCell ⟨gb366, 1, none⟩ (.int .i64 a0_1)).setCell ⟨gb366, 2, none⟩ (.slice none 0 0)).heap[gb366]? = some (.cells #[.int .i64 a0_0, .int .i64 a0_1, .slice none 0 0] 24 (0, 0))) := ⟨by refine stq ?_; refine blk_put (cs := #[.int .i64 a0_0, .int .i64 a0_1, .slice none 0 0]) ?_ 2 _ rfl; refine stq ?_; refine blk_put (cs := #[.int .i64 a0_0, .int .i64 0, .slice none 0 0]) ?_ 1 _ rfl; refine stq ?_; refine blk_put (cs := #[.int .i64 0, .int .i64 0, .slice none 0 0]) ?_ 0 _ rfl; refine stq ?_; exact BK366.out⟩
     have n4_ : Aside0 (Below w.heap.size w (((w71.setCell ⟨gb366, 0, none⟩ (.int .i64 a0_0)).setCell ⟨gb366, 1, none⟩ (.int .i64 a0_1)).setCell ⟨gb366, 2, none⟩ (.slice none 0 0))) := ⟨by repeat (first | (with_reducible first | exact HB.out | apply below_alloc | apply pw_below_drewN | apply below_drew1 | refine below_set ?_ GE361.out | refine below_set ?_ GE362.out | refine below_set ?_ GE363.out | refine below_set ?_ GE366.out) | exact HB.out)⟩
     (try clear BK361)
     (try clear BK362)
     (try clear BK363)
     (try clear BK366)
     (try clear HB)
     generalize (((w71.setCell ⟨gb366, 0, none⟩ (.int .i64 a0_0)).setCell ⟨gb366, 1, none⟩ (.int .i64 a0_1)).setCell ⟨gb366, 2, none⟩ (.slice none 0 0)) = w77 at n0_ n1_ n2_ n3_ n4_ ⊢
     have BK361 := n0_
     have BK362 := n1_
     have BK363 := n2_
     have BK366 := n3_
     have HB := n4_
     clear n0_ n1_ n2_ n3_ n4_
     have n0_ := Aside0.mk (blk_drew BK361.out)
     have n1_ := Aside0.mk (blk_drew BK362.out)
     have n2_ := Aside0.mk (blk_drew BK363.out)
     have n3_ := Aside0.mk (blk_drew BK366.out)
     have n4_ := Aside0.mk (below_drew1 HB.out)
     clear BK361
     clear BK362
     clear BK363
     clear BK366
     clear HB
     have BK361 := n0_
     have BK362 := n1_
     have BK363 := n2_
     have BK366 := n3_
     have HB := n4_
     clear n0_ n1_ n2_ n3_ n4_
     refine start_ (n := 14) (S := fun w' => w'.cell? ⟨gb362, 0, none⟩ = some (.int .i64 a1_0) ∧ w'.cell? ⟨gb362, 1, none⟩ = some (.int .u8 a1_1) ∧ w'.cell? ⟨gb362, 2, none⟩ = some (.int .u8 a1_2) ∧ w'.cell? ⟨gb362, 3, none⟩ = some (.int .u8 a1_3) ∧ w'.cell? ⟨gb362, 4, none⟩ = some (.int .u32 a1_4) ∧ w'.cell? ⟨gb362, 5, none⟩ = some (.int .u64 a1_5) ∧ w'.cell? ⟨gb362, 6, none⟩ = some (.int .i64 a1_6) ∧ w'.cell? ⟨gb362, 7, none⟩ = some (.int .i64 a1_7) ∧ w'.cell? ⟨gb362, 8, none⟩ = some (.int .i64 a1_8) ∧ w'.cell? ⟨gb362, 9, none⟩ = some (.int .u64 a1_9) ∧ w'.cell? ⟨gb362, 10, none⟩ = some (.int .u64 a1_10) ∧ w'.cell? ⟨gb362, 11, none⟩ = some (.int .u64 a1_11)) (ds := []) #[false, false, false, false, false, false, false, false, false, false, false, false, false, false] (by kernel_rfl) rfl rfl ⟨(blk_cell BK362.out 0).trans rfl, (blk_cell BK362.out 1).trans rfl, (blk_cell BK362.out 2).trans rfl, (blk_cell BK362.out 3).trans rfl, (blk_cell BK362.out 4).trans rfl, (blk_cell BK362.out 5).trans rfl, (blk_cell BK362.out 6).trans rfl, (blk_cell BK362.out 7).trans rfl, (blk_cell BK362.out 8).trans rfl, (blk_cell BK362.out 9).trans rfl, (blk_cell BK362.out 10).trans rfl, (blk_cell BK362.out 11).trans rfl⟩ (fun hHeld => ?_); refine with_tabW rampartref18_Set.tab10 rampartref18_Set.bits10 (fun HT_ HW_ => ?_)
     generalize w77.drew = w78 at BK361 BK362 BK363 BK366 HB hHeld ⊢
     refine take_ (i := 0) (N := some 41) (v := ?_) (a' := ?_) #[true, false, false, false, false, false, false, false, false, false, false, false, false, false] rfl rfl (take_ofW HT_.out HW_.out (by kernel_rfl)) (fun _ _ _ h => h) (Or.inl ⟨by rfl, ?_⟩) hHeld ?_ ?_
     rotate_left
     ·rintro w' ⟨s0, s1, s2, s3, s4, s5, s6, s7, s8, s9, s10, s11⟩
      go_simp
      with_reducible rfl
     rotate_left
     ·simp only [Act.put, List.setIfInBounds_toArray, List.set_cons_zero, List.set_cons_succ, i64_w, i32_w]
      rfl
     refine one_ (i := 1) (N := some 42) #[true, true, false, false, false, false, false, false, false, false, false, false, false, false] rfl rfl (one_of HT_.out (by kernel_rfl)) (by decide) (fun K hK => ?_)
     refine goes_ Try.func32 (by kernel_rfl) rfl #[.agg #[.int .i64 a1_0, .int .u8 a1_1, .int .u8 a1_2, .int .u8 a1_3, .int .u32 a1_4, .int .u64 a1_5, .int .i64 a1_6, .int .i64 a1_7, .int .i64 a1_8, .int .u64 a1_9, .int .u64 a1_10, .int .u64 a1_11]] (by rfl) rfl rfl (by (try simp only [List.map_toArray, List.map_cons, List.map_nil]); first | done | rfl | (simp only [List.length_drop, List.length_take]; rfl)) ?_
     with_reducible refine (rampartref17_Left.calls k a1_0 a1_1 a1_2 a1_3 a1_4 a1_5 a1_6 a1_7 a1_8 a1_9 a1_10 a1_11 t384 _ A57.out).mono ?_
     rintro e w79 ⟨rfl, hb⟩
     refine ⟨_, rfl, ?_⟩
     have n0_ := Aside0.mk (blk_below (stp BK361) hb)
     have n1_ := Aside0.mk (blk_below (stp BK362) hb)
     have n2_ := Aside0.mk (blk_below (stp BK363) hb)
     have n3_ := Aside0.mk (blk_below (stp BK366) hb)
     have n4_ := Aside0.mk (below_step (by repeat (first | (with_reducible first | exact HB.out | apply below_alloc | apply pw_below_drewN | apply below_drew1 | refine below_set ?_ GE361.out | refine below_set ?_ GE362.out | refine below_set ?_ GE363.out | refine below_set ?_ GE366.out) | exact HB.out)) hb)
     clear BK361
     clear BK362
     clear BK363
     clear BK366
     clear HB
     have BK361 := n0_
     have BK362 := n1_
     have BK363 := n2_
     have BK366 := n3_
     have HB := n4_
     clear n0_ n1_ n2_ n3_ n4_
     (try clear hb)
     (try clear hb2)
     (try clear hk)
     (try clear hi)
     refine hK.out _ _ ⟨(blk_cell BK362.out 0).trans rfl, (blk_cell BK362.out 1).trans rfl, (blk_cell BK362.out 2).trans rfl, (blk_cell BK362.out 3).trans rfl, (blk_cell BK362.out 4).trans rfl, (blk_cell BK362.out 5).trans rfl, (blk_cell BK362.out 6).trans rfl, (blk_cell BK362.out 7).trans rfl, (blk_cell BK362.out 8).trans rfl, (blk_cell BK362.out 9).trans rfl, (blk_cell BK362.out 10).trans rfl, (blk_cell BK362.out 11).trans rfl⟩ (fun hHeld => ?_)
     clear hK K
     refine norm_ (a' := ?_) ?_ ?_
     rotate_left
     ·show Act.put _ (some 42) _ = _
      simp only [Act.put, List.setIfInBounds_toArray, List.set_cons_zero, List.set_cons_succ, i64_w, i32_w]
      rfl
     refine pure_ (i := 2) (N := some 43) (v := ?_) (a' := ?_) #[true, true, true, false, false, false, false, false, false, false, false, false, false, false] rfl rfl (any_of HT_.out (by kernel_rfl)) (fun _ _ _ h => h) (Or.inl ⟨by rfl, ?_⟩) ?_ ?_
     rotate_left
     ·intro w'
      go_simp
      with_reducible rfl
     rotate_left
     ·simp only [Act.put, List.setIfInBounds_toArray, List.set_cons_zero, List.set_cons_succ, i64_w, i32_w]
      rfl
     refine pure_ (i := 3) (N := some 44) (v := ?_) (a' := ?_) #[true, true, true, true, false, false, false, false, false, false, false, false, false, false] rfl rfl (any_of HT_.out (by kernel_rfl)) (fun _ _ _ h => h) (Or.inl ⟨by rfl, ?_⟩) ?_ ?_
     rotate_left
     ·intro w'
      go_simp
      with_reducible rfl
     rotate_left
     ·simp only [Act.put, List.setIfInBounds_toArray, List.set_cons_zero, List.set_cons_succ, i64_w, i32_w]
      rfl
     refine pure_ (i := 4) (N := some 45) (v := undef) (a' := ?_) #[true, true, true, true, true, false, false, false, false, false, false, false, false, false] rfl rfl (any_of HT_.out (by kernel_rfl)) (fun _ _ _ h => h) (Or.inr ⟨by rfl, rfl⟩) ?_ ?_
     rotate_left
     ·simp only [Act.put, List.setIfInBounds_toArray, List.set_cons_zero, List.set_cons_succ, i64_w, i32_w]
      rfl
     refine pure_ (i := 5) (N := some 46) (v := undef) (a' := ?_) #[true, true, true, true, true, true, false, false, false, false, false, false, false, false] rfl rfl (any_of HT_.out (by kernel_rfl)) (fun _ _ _ h => h) (Or.inr ⟨by rfl, rfl⟩) ?_ ?_
     rotate_left
     ·simp only [Act.put, List.setIfInBounds_toArray, List.set_cons_zero, List.set_cons_succ, i64_w, i32_w]
      rfl
     refine pure_ (i := 6) (N := some 47) (v := undef) (a' := ?_) #[true, true, true, true, true, true, true, false, false, false, false, false, false, false] rfl rfl (any_of HT_.out (by kernel_rfl)) (fun _ _ _ h => h) (Or.inr ⟨by rfl, rfl⟩) ?_ ?_
     rotate_left
     ·simp only [Act.put, List.setIfInBounds_toArray, List.set_cons_zero, List.set_cons_succ, i64_w, i32_w]
      rfl
     refine pure_ (i := 7) (N := some 48) (v := undef) (a' := ?_) #[true, true, true, true, true, true, true, true, false, false, false, false, false, false] rfl rfl (any_of HT_.out (by kernel_rfl)) (fun _ _ _ h => h) (Or.inr ⟨by rfl, rfl⟩) ?_ ?_
     rotate_left
     ·simp only [Act.put, List.setIfInBounds_toArray, List.set_cons_zero, List.set_cons_succ, i64_w, i32_w]
      rfl
     refine pure_ (i := 8) (N := some 49) (v := undef) (a' := ?_) #[true, true, true, true, true, true, true, true, true, false, false, false, false, false] rfl rfl (any_of HT_.out (by kernel_rfl)) (fun _ _ _ h => h) (Or.inr ⟨by rfl, rfl⟩) ?_ ?_
     rotate_left
     ·simp only [Act.put, List.setIfInBounds_toArray, List.set_cons_zero, List.set_cons_succ, i64_w, i32_w]
      rfl
     refine pure_ (i := 9) (N := some 50) (v := undef) (a' := ?_) #[true, true, true, true, true, true, true, true, true, true, false, false, false, false] rfl rfl (any_of HT_.out (by kernel_rfl)) (fun _ _ _ h => h) (Or.inr ⟨by rfl, rfl⟩) ?_ ?_
     rotate_left
     ·simp only [Act.put, List.setIfInBounds_toArray, List.set_cons_zero, List.set_cons_succ, i64_w, i32_w]
      rfl
     refine pure_ (i := 10) (N := some 51) (v := undef) (a' := ?_) #[true, true, true, true, true, true, true, true, true, true, true, false, false, false] rfl rfl (any_of HT_.out (by kernel_rfl)) (fun _ _ _ h => h) (Or.inr ⟨by rfl, rfl⟩) ?_ ?_
     rotate_left
     ·simp only [Act.put, List.setIfInBounds_toArray, List.set_cons_zero, List.set_cons_succ, i64_w, i32_w]
      rfl
     refine pure_ (i := 11) (N := some 52) (v := undef) (a' := ?_) #[true, true, true, true, true, true, true, true, true, true, true, true, false, false] rfl rfl (any_of HT_.out (by kernel_rfl)) (fun _ _ _ h => h) (Or.inr ⟨by rfl, rfl⟩) ?_ ?_
     rotate_left
     ·simp only [Act.put, List.setIfInBounds_toArray, List.set_cons_zero, List.set_cons_succ, i64_w, i32_w]
      rfl
     refine pure_ (i := 12) (N := some 53) (v := undef) (a' := ?_) #[true, true, true, true, true, true, true, true, true, true, true, true, true, false] rfl rfl (any_of HT_.out (by kernel_rfl)) (fun _ _ _ h => h) (Or.inr ⟨by rfl, rfl⟩) ?_ ?_
     rotate_left
     ·simp only [Act.put, List.setIfInBounds_toArray, List.set_cons_zero, List.set_cons_succ, i64_w, i32_w]
      rfl
     refine pure_ (i := 13) (N := some 54) (v := ?_) (a' := ?_) #[true, true, true, true, true, true, true, true, true, true, true, true, true, true] rfl rfl (any_of HT_.out (by kernel_rfl)) (fun _ _ _ h => h) (Or.inl ⟨by rfl, ?_⟩) ?_ ?_
     rotate_left
     ·intro w'
      go_simp
      with_reducible rfl
     rotate_left
     ·simp only [Act.put, List.setIfInBounds_toArray, List.set_cons_zero, List.set_cons_succ, i64_w, i32_w]
      rfl
     refine done_ (done_of HT_.out (by kernel_rfl)) ?_
     have hcz80_0 : w79.cell? ⟨gb363, 0, none⟩ = some (.int .i64 0) := (blk_cell BK363.out 0).trans rfl
     have hcz80_1 : w79.cell? ⟨gb363, 1, none⟩ = some (.int .i64 0) := (blk_cell BK363.out 1).trans rfl
     have hcz80_2 : w79.cell? ⟨gb363, 2, none⟩ = some (.slice none 0 0) := (blk_cell BK363.out 2).trans rfl
     have hfz80_0 := blk_frozen BK363.out 0
     have hfz80_1 := blk_frozen BK363.out 1
     have hfz80_2 := blk_frozen BK363.out 2
     try go_wp2
     refine bodyPost_ret (results_ct rfl _ _ gb363 24 #[.int .i64 0, .int .i64 0, .slice none 0 0] (0, 0) _ rfl (by refine stq ?_; refine blk_put (cs := #[.int .i64 0, .int .i64 0, .slice none 0 0]) ?_ 2 _ rfl; refine stq ?_; refine blk_put (cs := #[.int .i64 0, .int .i64 0, .slice none 0 0]) ?_ 1 _ rfl; refine stq ?_; refine blk_put (cs := #[.int .i64 0, .int .i64 0, .slice none 0 0]) ?_ 0 _ rfl; refine stq ?_; exact BK363.out) Try.underlying24 rfl (by kernel_rfl)) rfl ?_
     exact ⟨_, by first | rfl | (simp [errW_none, errW_some] <;> rfl) | (simp [*, errW_none, errW_some] <;> rfl), by first | exact Kd.R_nil _ _ _ _ _ | exact Kd.N_nil _ _ _ _ _ | exact Kd.V_nil _ _ _ _ _ | exact Kd.Q_nil _ _ _ _ _ | exact Kd.S_nil _ _ _ _ _, by repeat (first | (with_reducible first | exact HB.out | apply below_alloc | apply pw_below_drewN | apply below_drew1 | refine below_set ?_ GE361.out | refine below_set ?_ GE362.out | refine below_set ?_ GE363.out | refine below_set ?_ GE366.out) | exact HB.out)⟩
    ·rw [if_neg c58] at H
     have c58b0 : (t384 == 0) = false := beq_eq_false_iff_ne.mpr c58
     have c58b1 : (t384 != 0) = true := bne_iff_ne.mpr c58
     by_cases c81 : 0 ≤ t365
     ·rw [if_pos c81] at H
      have c81b0 : decide (0 ≤ t365) = true := decide_eq_true c81
      clear c81
      by_cases c82 : t365 < (l0_2.length : Int)
      ·rw [if_pos c82] at H
       have c82b0 : decide (t365 < (l0_2.length : Int)) = true := decide_eq_true c82
       clear c82
       by_cases c83 : (!(a1_1 == ((rd_T42 l0_2 t365).f1.f0)) || (!(a1_2 == ((rd_T42 l0_2 t365).f1.f1)) || (!(a1_3 == ((rd_T42 l0_2 t365).f1.f2)) || (!(a1_4 == ((rd_T42 l0_2 t365).f1.f3)) || (!(a1_5 == ((rd_T42 l0_2 t365).f1.f4))))))) = true
       ·rw [if_pos c83] at H
        have c83b0 : (!(a1_1 == ((rd_T42 l0_2 t365).f1.f0)) || (!(a1_2 == ((rd_T42 l0_2 t365).f1.f1)) || (!(a1_3 == ((rd_T42 l0_2 t365).f1.f2)) || (!(a1_4 == ((rd_T42 l0_2 t365).f1.f3)) || (!(a1_5 == ((rd_T42 l0_2 t365).f1.f4))))))) = true := c83
        clear c83
        simp only [Option.some.injEq, Prod.mk.injEq] at H
        obtain ⟨rfl, rfl, rfl, rfl⟩ := H
        go_enter Try.func17, Try.ntmps17
        try go_wp2_with (first | ((with_reducible refine gate_dst (N := 2) rfl ?_); refine box_event ?hg (N := 2) ?hd (cs := #[.int .i64 a0_0, .int .i64 a0_1, .slice A0_2 l0_2.length c0_2]) (t := 24) ?hr ?_; (case hd => rfl); (case hg => rfl); (case hr => first | (go_simp; done) | (go_simp; rfl)); intro gb361 hg w84 hbox hb; have ⟨n0_, n2_⟩ := pkB (stb HB) hb hg; have n3_ := n2_; have n1_ := Aside0.mk (hbox); clear HB; have HB := n0_; have BK361 := n1_; have GW361 := n2_; have GE361 := n3_; clear n0_ n1_ n2_ n3_; clear hb hbox hg) | ((with_reducible refine gate_dst (N := 3) rfl ?_); refine box_event ?hg (N := 3) ?hd (cs := #[.int .i64 a1_0, .int .u8 a1_1, .int .u8 a1_2, .int .u8 a1_3, .int .u32 a1_4, .int .u64 a1_5, .int .i64 a1_6, .int .i64 a1_7, .int .i64 a1_8, .int .u64 a1_9, .int .u64 a1_10, .int .u64 a1_11]) (t := 42) ?hr ?_; (case hd => rfl); (case hg => rfl); (case hr => first | (go_simp; done) | (go_simp; rfl)); intro gb362 hg w85 hbox hb; have ⟨n0_, n5_, n6_⟩ := pkK (stp BK361) hb hg; have ⟨n1_, n3_⟩ := pkB (w := w) (by repeat (first | (with_reducible first | exact HB.out | apply below_alloc | apply pw_below_drewN | apply below_drew1 | refine below_set ?_ GE361.out) | exact HB.out)) hb hg; have n4_ := n3_; have n2_ := Aside0.mk (hbox); clear BK361; clear HB; have BK361 := n0_; have HB := n1_; have BK362 := n2_; have GW362 := n3_; have GE362 := n4_; have NB361_362 := n5_; have NB362_361 := n6_; clear n0_ n1_ n2_ n3_ n4_ n5_ n6_; clear hb hbox hg) | ((with_reducible refine gate_dst (N := 4) rfl ?_); refine box_event ?hg (N := 4) ?hd (cs := #[.int .i64 0, .int .i64 0, .slice none 0 0]) (t := 24) ?hr ?_; (case hd => rfl); (case hg => rfl); (case hr => first | (go_simp; done) | (go_simp; rfl)); intro gb363 hg w86 hbox hb; have ⟨n0_, n6_, n7_⟩ := pkK (stp BK361) hb hg; have ⟨n1_, n8_, n9_⟩ := pkK (stp BK362) hb hg; have ⟨n2_, n4_⟩ := pkB (w := w) (by repeat (first | (with_reducible first | exact HB.out | apply below_alloc | apply pw_below_drewN | apply below_drew1 | refine below_set ?_ GE361.out | refine below_set ?_ GE362.out) | exact HB.out)) hb hg; have n5_ := n4_; have n3_ := Aside0.mk (hbox); clear BK361; clear BK362; clear HB; have BK361 := n0_; have BK362 := n1_; have HB := n2_; have BK363 := n3_; have GW363 := n4_; have GE363 := n5_; have NB361_363 := n6_; have NB363_361 := n7_; have NB362_363 := n8_; have NB363_362 := n9_; clear n0_ n1_ n2_ n3_ n4_ n5_ n6_ n7_ n8_ n9_; clear hb hbox hg; have hnb87 := NB361_362.out; have hnc87 := NB362_361.out; have hnb88 := NB361_363.out; have hnc88 := NB363_361.out; have hcz89_0 : w86.cell? ⟨gb361, 0, none⟩ = some (.int .i64 a0_0) := (blk_cell BK361.out 0).trans rfl; have hcz89_1 : w86.cell? ⟨gb361, 1, none⟩ = some (.int .i64 a0_1) := (blk_cell BK361.out 1).trans rfl; have hcz89_2 : w86.cell? ⟨gb361, 2, none⟩ = some (.slice A0_2 l0_2.length c0_2) := (blk_cell BK361.out 2).trans rfl; have hfz89_0 := blk_frozen BK361.out 0; have hfz89_1 := blk_frozen BK361.out 1; have hfz89_2 := blk_frozen BK361.out 2) | ((with_reducible refine gate_callee (f := 21) rfl ?_); refine goesL_ (some 9) rfl rfl Try.func21 (by kernel_rfl) rfl #[.agg #[.int .i64 a0_0, .int .i64 a0_1, .slice A0_2 l0_2.length c0_2]] rfl (by (try simp only [List.map_toArray, List.map_cons, List.map_nil]); first | done | rfl | (simp only [List.length_drop, List.length_take]; rfl)) ?_; (with_reducible refine (rampartref18_Check.calls k a0_0 a0_1 _ _ l0_2 t364 _ ?side1 ?side2 A3.out).mono ?_); (case side1 => repeat (first | exact (Kd.C_below HR0_2.out HB.out) | (with_reducible refine Kd.C_alloc ?_ _) | (with_reducible refine Kd.C_drewN ?_ _) | (with_reducible refine Kd.C_drew ?_))); (case side2 => exact HC0_2.out); rintro e w90 ⟨rfl, hb⟩; refine ⟨_, rfl, ?_⟩; have n0_ := Aside0.mk (blk_below (stp BK361) hb); have n1_ := Aside0.mk (blk_below (stp BK362) hb); have n2_ := Aside0.mk (blk_below (stp BK363) hb); have n3_ := Aside0.mk (below_step (by repeat (first | (with_reducible first | exact HB.out | apply below_alloc | apply pw_below_drewN | apply below_drew1 | refine below_set ?_ GE361.out | refine below_set ?_ GE362.out | refine below_set ?_ GE363.out) | exact HB.out)) hb); clear BK361; clear BK362; clear BK363; clear HB; have BK361 := n0_; have BK362 := n1_; have BK363 := n2_; have HB := n3_; clear n0_ n1_ n2_ n3_; (try clear hb); (try clear hb2); (try clear hk); (try clear hi); have hcz91_0 : w90.cell? ⟨gb361, 0, none⟩ = some (.int .i64 a0_0) := (blk_cell BK361.out 0).trans rfl; have hcz91_1 : w90.cell? ⟨gb361, 1, none⟩ = some (.int .i64 a0_1) := (blk_cell BK361.out 1).trans rfl; have hcz91_2 : w90.cell? ⟨gb361, 2, none⟩ = some (.slice A0_2 l0_2.length c0_2) := (blk_cell BK361.out 2).trans rfl; have hfz91_0 := blk_frozen BK361.out 0; have hfz91_1 := blk_frozen BK361.out 1; have hfz91_2 := blk_frozen BK361.out 2; have hnb92 := NB362_363.out; have hnc92 := NB363_362.out; have hcz93_0 : w90.cell? ⟨gb362, 0, none⟩ = some (.int .i64 a1_0) := (blk_cell BK362.out 0).trans rfl; have hcz93_1 : w90.cell? ⟨gb362, 1, none⟩ = some (.int .u8 a1_1) := (blk_cell BK362.out 1).trans rfl; have hcz93_2 : w90.cell? ⟨gb362, 2, none⟩ = some (.int .u8 a1_2) := (blk_cell BK362.out 2).trans rfl; have hcz93_3 : w90.cell? ⟨gb362, 3, none⟩ = some (.int .u8 a1_3) := (blk_cell BK362.out 3).trans rfl; have hcz93_4 : w90.cell? ⟨gb362, 4, none⟩ = some (.int .u32 a1_4) := (blk_cell BK362.out 4).trans rfl; have hcz93_5 : w90.cell? ⟨gb362, 5, none⟩ = some (.int .u64 a1_5) := (blk_cell BK362.out 5).trans rfl; have hcz93_6 : w90.cell? ⟨gb362, 6, none⟩ = some (.int .i64 a1_6) := (blk_cell BK362.out 6).trans rfl; have hcz93_7 : w90.cell? ⟨gb362, 7, none⟩ = some (.int .i64 a1_7) := (blk_cell BK362.out 7).trans rfl; have hcz93_8 : w90.cell? ⟨gb362, 8, none⟩ = some (.int .i64 a1_8) := (blk_cell BK362.out 8).trans rfl; have hcz93_9 : w90.cell? ⟨gb362, 9, none⟩ = some (.int .u64 a1_9) := (blk_cell BK362.out 9).trans rfl; have hcz93_10 : w90.cell? ⟨gb362, 10, none⟩ = some (.int .u64 a1_10) := (blk_cell BK362.out 10).trans rfl; have hcz93_11 : w90.cell? ⟨gb362, 11, none⟩ = some (.int .u64 a1_11) := (blk_cell BK362.out 11).trans rfl; have hfz93_0 := blk_frozen BK362.out 0; have hfz93_1 := blk_frozen BK362.out 1; have hfz93_2 := blk_frozen BK362.out 2; have hfz93_3 := blk_frozen BK362.out 3; have hfz93_4 := blk_frozen BK362.out 4; have hfz93_5 := blk_frozen BK362.out 5; have hfz93_6 := blk_frozen BK362.out 6; have hfz93_7 := blk_frozen BK362.out 7; have hfz93_8 := blk_frozen BK362.out 8; have hfz93_9 := blk_frozen BK362.out 9; have hfz93_10 := blk_frozen BK362.out 10; have hfz93_11 := blk_frozen BK362.out 11) | ((with_reducible refine gate_callee (f := 30) rfl ?_); refine goesL_ (some 15) rfl rfl Try.func30 (by kernel_rfl) rfl #[.agg #[.int .i64 a0_0, .int .i64 a0_1, .slice A0_2 l0_2.length c0_2], .int .i64 a1_0] rfl (by (try simp only [List.map_toArray, List.map_cons, List.map_nil]); first | done | rfl | (simp only [List.length_drop, List.length_take]; rfl)) ?_; (with_reducible refine (rampartref18_place.calls k a0_0 a0_1 _ _ l0_2 a1_0 t365 _ ?side1 ?side2 A5.out).mono ?_); (case side1 => repeat (first | exact (Kd.C_below HR0_2.out HB.out) | (with_reducible refine Kd.C_alloc ?_ _) | (with_reducible refine Kd.C_drewN ?_ _) | (with_reducible refine Kd.C_drew ?_))); (case side2 => exact HC0_2.out); rintro e w94 ⟨rfl, hb⟩; refine ⟨_, rfl, ?_⟩; have n0_ := Aside0.mk (blk_below (stp BK361) hb); have n1_ := Aside0.mk (blk_below (stp BK362) hb); have n2_ := Aside0.mk (blk_below (stp BK363) hb); have n3_ := Aside0.mk (below_step (by repeat (first | (with_reducible first | exact HB.out | apply below_alloc | apply pw_below_drewN | apply below_drew1 | refine below_set ?_ GE361.out | refine below_set ?_ GE362.out | refine below_set ?_ GE363.out) | exact HB.out)) hb); clear BK361; clear BK362; clear BK363; clear HB; have BK361 := n0_; have BK362 := n1_; have BK363 := n2_; have HB := n3_; clear n0_ n1_ n2_ n3_; (try clear hb); (try clear hb2); (try clear hk); (try clear hi); have hcz95_0 : w94.cell? ⟨gb361, 0, none⟩ = some (.int .i64 a0_0) := (blk_cell BK361.out 0).trans rfl; have hcz95_1 : w94.cell? ⟨gb361, 1, none⟩ = some (.int .i64 a0_1) := (blk_cell BK361.out 1).trans rfl; have hcz95_2 : w94.cell? ⟨gb361, 2, none⟩ = some (.slice A0_2 l0_2.length c0_2) := (blk_cell BK361.out 2).trans rfl; have hfz95_0 := blk_frozen BK361.out 0; have hfz95_1 := blk_frozen BK361.out 1; have hfz95_2 := blk_frozen BK361.out 2) | ((with_reducible refine gate_dst (N := 7) rfl ?_); refine box_event ?hg (N := 7) ?hd (cs := #[.int .i64 0, .int .i64 0, .slice none 0 0]) (t := 24) ?hr ?_; (case hd => rfl); (case hg => rfl); (case hr => first | (go_simp; done) | (go_simp; rfl)); intro gb366 hg w96 hbox hb; have ⟨n0_, n7_, n8_⟩ := pkK (stp BK361) hb hg; have ⟨n1_, n9_, n10_⟩ := pkK (stp BK362) hb hg; have ⟨n2_, n11_, n12_⟩ := pkK (stp BK363) hb hg; have ⟨n3_, n5_⟩ := pkB (w := w) (by repeat (first | (with_reducible first | exact HB.out | apply below_alloc | apply pw_below_drewN | apply below_drew1 | refine below_set ?_ GE361.out | refine below_set ?_ GE362.out | refine below_set ?_ GE363.out) | exact HB.out)) hb hg; have n6_ := n5_; have n4_ := Aside0.mk (hbox); clear BK361; clear BK362; clear BK363; clear HB; have BK361 := n0_; have BK362 := n1_; have BK363 := n2_; have HB := n3_; have BK366 := n4_; have GW366 := n5_; have GE366 := n6_; have NB361_366 := n7_; have NB366_361 := n8_; have NB362_366 := n9_; have NB366_362 := n10_; have NB363_366 := n11_; have NB366_363 := n12_; clear n0_ n1_ n2_ n3_ n4_ n5_ n6_ n7_ n8_ n9_ n10_ n11_ n12_; clear hb hbox hg; have hnb97 := NB366_361.out; have hnc97 := NB361_366.out; have hnb98 := NB366_362.out; have hnc98 := NB362_366.out; have hnb99 := NB366_363.out; have hnc99 := NB363_366.out; have hcz100_0 : w96.cell? ⟨gb366, 0, none⟩ = some (.int .i64 0) := (blk_cell BK366.out 0).trans rfl; have hcz100_1 : w96.cell? ⟨gb366, 1, none⟩ = some (.int .i64 0) := (blk_cell BK366.out 1).trans rfl; have hcz100_2 : w96.cell? ⟨gb366, 2, none⟩ = some (.slice none 0 0) := (blk_cell BK366.out 2).trans rfl; have hfz100_0 := blk_frozen BK366.out 0; have hfz100_1 := blk_frozen BK366.out 1; have hfz100_2 := blk_frozen BK366.out 2; have hcz101_0 : w96.cell? ⟨gb362, 0, none⟩ = some (.int .i64 a1_0) := (blk_cell BK362.out 0).trans rfl; have hcz101_1 : w96.cell? ⟨gb362, 1, none⟩ = some (.int .u8 a1_1) := (blk_cell BK362.out 1).trans rfl; have hcz101_2 : w96.cell? ⟨gb362, 2, none⟩ = some (.int .u8 a1_2) := (blk_cell BK362.out 2).trans rfl; have hcz101_3 : w96.cell? ⟨gb362, 3, none⟩ = some (.int .u8 a1_3) := (blk_cell BK362.out 3).trans rfl; have hcz101_4 : w96.cell? ⟨gb362, 4, none⟩ = some (.int .u32 a1_4) := (blk_cell BK362.out 4).trans rfl; have hcz101_5 : w96.cell? ⟨gb362, 5, none⟩ = some (.int .u64 a1_5) := (blk_cell BK362.out 5).trans rfl; have hcz101_6 : w96.cell? ⟨gb362, 6, none⟩ = some (.int .i64 a1_6) := (blk_cell BK362.out 6).trans rfl; have hcz101_7 : w96.cell? ⟨gb362, 7, none⟩ = some (.int .i64 a1_7) := (blk_cell BK362.out 7).trans rfl; have hcz101_8 : w96.cell? ⟨gb362, 8, none⟩ = some (.int .i64 a1_8) := (blk_cell BK362.out 8).trans rfl; have hcz101_9 : w96.cell? ⟨gb362, 9, none⟩ = some (.int .u64 a1_9) := (blk_cell BK362.out 9).trans rfl; have hcz101_10 : w96.cell? ⟨gb362, 10, none⟩ = some (.int .u64 a1_10) := (blk_cell BK362.out 10).trans rfl; have hcz101_11 : w96.cell? ⟨gb362, 11, none⟩ = some (.int .u64 a1_11) := (blk_cell BK362.out 11).trans rfl; have hfz101_0 := blk_frozen BK362.out 0; have hfz101_1 := blk_frozen BK362.out 1; have hfz101_2 := blk_frozen BK362.out 2; have hfz101_3 := blk_frozen BK362.out 3; have hfz101_4 := blk_frozen BK362.out 4; have hfz101_5 := blk_frozen BK362.out 5; have hfz101_6 := blk_frozen BK362.out 6; have hfz101_7 := blk_frozen BK362.out 7; have hfz101_8 := blk_frozen BK362.out 8; have hfz101_9 := blk_frozen BK362.out 9; have hfz101_10 := blk_frozen BK362.out 10; have hfz101_11 := blk_frozen BK362.out 11))
        have n0_ : Aside0 ((((w96.setCell ⟨gb366, 0, none⟩ (.int .i64 a0_0)).setCell ⟨gb366, 1, none⟩ (.int .i64 a0_1)).setCell ⟨gb366, 2, none⟩ (.slice none 0 0)).heap[gb361]? = some (.cells #[.int .i64 a0_0, .int .i64 a0_1, .slice A0_2 l0_2.length c0_2] 24 (0, 0))) := ⟨by refine stq ?_; refine blk_far ?_ NB361_366.out _; refine stq ?_; refine blk_far ?_ NB361_366.out _; refine stq ?_; refine blk_far ?_ NB361_366.out _; refine stq ?_; exact BK361.out⟩
        have n1_ : Aside0 ((((w96.setCell ⟨gb366, 0, none⟩ (.int .i64 a0_0)).setCell ⟨gb366, 1, none⟩ (.int .i64 a0_1)).setCell ⟨gb366, 2, none⟩ (.slice none 0 0)).heap[gb362]? = some (.cells #[.int .i64 a1_0, .int .u8 a1_1, .int .u8 a1_2, .int .u8 a1_3, .int .u32 a1_4, .int .u64 a1_5, .int .i64 a1_6, .int .i64 a1_7, .int .i64 a1_8, .int .u64 a1_9, .int .u64 a1_10, .int .u64 a1_11] 42 (0, 0))) := ⟨by refine stq ?_; refine blk_far ?_ NB362_366.out _; refine stq ?_; refine blk_far ?_ NB362_366.out _; refine stq ?_; refine blk_far ?_ NB362_366.out _; refine stq ?_; exact BK362.out⟩
        have n2_ : Aside0 ((((w96.setCell ⟨gb366, 0, none⟩ (.int .i64 a0_0)).setCell ⟨gb366, 1, none⟩ (.int .i64 a0_1)).setCell ⟨gb366, 2, none⟩ (.slice none 0 0)).heap[gb363]? = some (.cells #[.int .i64 0, .int .i64 0, .slice none 0 0] 24 (0, 0))) := ⟨by refine stq ?_; refine blk_far ?_ NB363_366.out _; refine stq ?_; refine blk_far ?_ NB363_366.out _; refine stq ?_; refine blk_far ?_ NB363_366.out _; refine stq ?_; exact BK363.out⟩
        have n3_ : Aside0 ((((w96.setCell ⟨gb366, 0, none⟩ (.int .i64 a0_0)).setCell ⟨gb366, 1, none⟩ (.int .i64 a0_1)).setCell ⟨gb366, 2, none⟩ (.slice none 0 0)).heap[gb366]? = some (.cells #[.int .i64 a0_0, .int .i64 a0_1, .slice none 0 0] 24 (0, 0))) := ⟨by refine stq ?_; refine blk_put (cs := #[.int .i64 a0_0, .int .i64 a0_1, .slice none 0 0]) ?_ 2 _ rfl; refine stq ?_; refine blk_put (cs := #[.int .i64 a0_0, .int .i64 0, .slice none 0 0]) ?_ 1 _ rfl; refine stq ?_; refine blk_put (cs := #[.int .i64 0, .int .i64 0, .slice none 0 0]) ?_ 0 _ rfl; refine stq ?_; exact BK366.out⟩
        have n4_ : Aside0 (Below w.heap.size w (((w96.setCell ⟨gb366, 0, none⟩ (.int .i64 a0_0)).setCell ⟨gb366, 1, none⟩ (.int .i64 a0_1)).setCell ⟨gb366, 2, none⟩ (.slice none 0 0))) := ⟨by repeat (first | (with_reducible first | exact HB.out | apply below_alloc | apply pw_below_drewN | apply below_drew1 | refine below_set ?_ GE361.out | refine below_set ?_ GE362.out | refine below_set ?_ GE363.out | refine below_set ?_ GE366.out) | exact HB.out)⟩
        (try clear BK361)
        (try clear BK362)
        (try clear BK363)
        (try clear BK366)
        (try clear HB)
        generalize (((w96.setCell ⟨gb366, 0, none⟩ (.int .i64 a0_0)).setCell ⟨gb366, 1, none⟩ (.int .i64 a0_1)).setCell ⟨gb366, 2, none⟩ (.slice none 0 0)) = w102 at n0_ n1_ n2_ n3_ n4_ ⊢
        have BK361 := n0_
        have BK362 := n1_
        have BK363 := n2_
        have BK366 := n3_
        have HB := n4_
        clear n0_ n1_ n2_ n3_ n4_
        have n0_ := Aside0.mk (blk_drew BK361.out)
        have n1_ := Aside0.mk (blk_drew BK362.out)
        have n2_ := Aside0.mk (blk_drew BK363.out)
        have n3_ := Aside0.mk (blk_drew BK366.out)
        have n4_ := Aside0.mk (below_drew1 HB.out)
        clear BK361
        clear BK362
        clear BK363
        clear BK366
        clear HB
        have BK361 := n0_
        have BK362 := n1_
        have BK363 := n2_
        have BK366 := n3_
        have HB := n4_
        clear n0_ n1_ n2_ n3_ n4_
        have p385 : 0 ≤ (t365 : Int) := of_decide_eq_true (by first | (with_reducible assumption) | assumption)
        have q385 : t365 < (l0_2.length : Int) := of_decide_eq_true (by first | (with_reducible assumption) | assumption)
        obtain ⟨ad385, e385, hx385_0, hx385_1, hx385_2, hx385_3, hx385_4, hx385_5, hx385_6, hx385_7, hx385_8, hx385_9, hx385_10, hx385_11⟩ := at_T42 HR0_2.out t365 p385 q385
        have hw385_11 := hx385_11
        have hw385_10 := hx385_10
        have hw385_9 := hx385_9
        have hw385_8 := hx385_8
        have hw385_7 := hx385_7
        have hw385_6 := hx385_6
        have hw385_5 := hx385_5
        have hw385_4 := hx385_4
        have hw385_3 := hx385_3
        have hw385_2 := hx385_2
        have hw385_1 := hx385_1
        have hw385_0 := hx385_0
        cases e385
        replace hx385_0 := (HB.out.cell (World.block_lt_of_cell? w _ hx385_0)).trans hx385_0
        replace hx385_1 := (HB.out.cell (World.block_lt_of_cell? w _ hx385_1)).trans hx385_1
        replace hx385_2 := (HB.out.cell (World.block_lt_of_cell? w _ hx385_2)).trans hx385_2
        replace hx385_3 := (HB.out.cell (World.block_lt_of_cell? w _ hx385_3)).trans hx385_3
        replace hx385_4 := (HB.out.cell (World.block_lt_of_cell? w _ hx385_4)).trans hx385_4
        replace hx385_5 := (HB.out.cell (World.block_lt_of_cell? w _ hx385_5)).trans hx385_5
        replace hx385_6 := (HB.out.cell (World.block_lt_of_cell? w _ hx385_6)).trans hx385_6
        replace hx385_7 := (HB.out.cell (World.block_lt_of_cell? w _ hx385_7)).trans hx385_7
        replace hx385_8 := (HB.out.cell (World.block_lt_of_cell? w _ hx385_8)).trans hx385_8
        replace hx385_9 := (HB.out.cell (World.block_lt_of_cell? w _ hx385_9)).trans hx385_9
        replace hx385_10 := (HB.out.cell (World.block_lt_of_cell? w _ hx385_10)).trans hx385_10
        replace hx385_11 := (HB.out.cell (World.block_lt_of_cell? w _ hx385_11)).trans hx385_11
        replace p385 := eq_true p385
        replace q385 := eq_true q385
        refine start_ (n := 14) (S := fun w' => w'.cell? ⟨gb362, 0, none⟩ = some (.int .i64 a1_0) ∧ w'.cell? ⟨gb362, 1, none⟩ = some (.int .u8 a1_1) ∧ w'.cell? ⟨gb362, 2, none⟩ = some (.int .u8 a1_2) ∧ w'.cell? ⟨gb362, 3, none⟩ = some (.int .u8 a1_3) ∧ w'.cell? ⟨gb362, 4, none⟩ = some (.int .u32 a1_4) ∧ w'.cell? ⟨gb362, 5, none⟩ = some (.int .u64 a1_5) ∧ w'.cell? ⟨gb362, 6, none⟩ = some (.int .i64 a1_6) ∧ w'.cell? ⟨gb362, 7, none⟩ = some (.int .i64 a1_7) ∧ w'.cell? ⟨gb362, 8, none⟩ = some (.int .i64 a1_8) ∧ w'.cell? ⟨gb362, 9, none⟩ = some (.int .u64 a1_9) ∧ w'.cell? ⟨gb362, 10, none⟩ = some (.int .u64 a1_10) ∧ w'.cell? ⟨gb362, 11, none⟩ = some (.int .u64 a1_11) ∧ w'.cell? ⟨gb361, 0, none⟩ = some (.int .i64 a0_0) ∧ w'.cell? ⟨gb361, 1, none⟩ = some (.int .i64 a0_1) ∧ w'.cell? ⟨gb361, 2, none⟩ = some (.slice (some ad385) l0_2.length c0_2) ∧ w'.cell? (ad385.add ((t365).toNat * 12)) = some (.int .i64 ((rd_T42 l0_2 t365).f0)) ∧ w'.cell? ⟨(ad385.add ((t365).toNat * 12)).block, (ad385.add ((t365).toNat * 12)).off + 1, none⟩ = some (.int .u8 ((rd_T42 l0_2 t365).f1.f0)) ∧ w'.cell? ⟨(ad385.add ((t365).toNat * 12)).block, (ad385.add ((t365).toNat * 12)).off + 2, none⟩ = some (.int .u8 ((rd_T42 l0_2 t365).f1.f1)) ∧ w'.cell? ⟨(ad385.add ((t365).toNat * 12)).block, (ad385.add ((t365).toNat * 12)).off + 3, none⟩ = some (.int .u8 ((rd_T42 l0_2 t365).f1.f2)) ∧ w'.cell? ⟨(ad385.add ((t365).toNat * 12)).block, (ad385.add ((t365).toNat * 12)).off + 4, none⟩ = some (.int .u32 ((rd_T42 l0_2 t365).f1.f3)) ∧ w'.cell? ⟨(ad385.add ((t365).toNat * 12)).block, (ad385.add ((t365).toNat * 12)).off + 5, none⟩ = some (.int .u64 ((rd_T42 l0_2 t365).f1.f4)) ∧ w'.cell? ⟨(ad385.add ((t365).toNat * 12)).block, (ad385.add ((t365).toNat * 12)).off + 6, none⟩ = some (.int .i64 ((rd_T42 l0_2 t365).f2)) ∧ w'.cell? ⟨(ad385.add ((t365).toNat * 12)).block, (ad385.add ((t365).toNat * 12)).off + 7, none⟩ = some (.int .i64 ((rd_T42 l0_2 t365).f3)) ∧ w'.cell? ⟨(ad385.add ((t365).toNat * 12)).block, (ad385.add ((t365).toNat * 12)).off + 8, none⟩ = some (.int .i64 ((rd_T42 l0_2 t365).f4)) ∧ w'.cell? ⟨(ad385.add ((t365).toNat * 12)).block, (ad385.add ((t365).toNat * 12)).off + 9, none⟩ = some (.int .u64 ((rd_T42 l0_2 t365).f5.f0)) ∧ w'.cell? ⟨(ad385.add ((t365).toNat * 12)).block, (ad385.add ((t365).toNat * 12)).off + 10, none⟩ = some (.int .u64 ((rd_T42 l0_2 t365).f5.f1)) ∧ w'.cell? ⟨(ad385.add ((t365).toNat * 12)).block, (ad385.add ((t365).toNat * 12)).off + 11, none⟩ = some (.int .u64 ((rd_T42 l0_2 t365).f6))) (ds := []) #[false, false, false, false, false, false, false, false, false, false, false, false, false, false] (by kernel_rfl) rfl rfl ⟨(blk_cell BK362.out 0).trans rfl, (blk_cell BK362.out 1).trans rfl, (blk_cell BK362.out 2).trans rfl, (blk_cell BK362.out 3).trans rfl, (blk_cell BK362.out 4).trans rfl, (blk_cell BK362.out 5).trans rfl, (blk_cell BK362.out 6).trans rfl, (blk_cell BK362.out 7).trans rfl, (blk_cell BK362.out 8).trans rfl, (blk_cell BK362.out 9).trans rfl, (blk_cell BK362.out 10).trans rfl, (blk_cell BK362.out 11).trans rfl, (blk_cell BK361.out 0).trans rfl, (blk_cell BK361.out 1).trans rfl, (blk_cell BK361.out 2).trans rfl, ((HB.out.cell (World.block_lt_of_cell? w _ hw385_0)).trans hw385_0), ((HB.out.cell (World.block_lt_of_cell? w _ hw385_1)).trans hw385_1), ((HB.out.cell (World.block_lt_of_cell? w _ hw385_2)).trans hw385_2), ((HB.out.cell (World.block_lt_of_cell? w _ hw385_3)).trans hw385_3), ((HB.out.cell (World.block_lt_of_cell? w _ hw385_4)).trans hw385_4), ((HB.out.cell (World.block_lt_of_cell? w _ hw385_5)).trans hw385_5), ((HB.out.cell (World.block_lt_of_cell? w _ hw385_6)).trans hw385_6), ((HB.out.cell (World.block_lt_of_cell? w _ hw385_7)).trans hw385_7), ((HB.out.cell (World.block_lt_of_cell? w _ hw385_8)).trans hw385_8), ((HB.out.cell (World.block_lt_of_cell? w _ hw385_9)).trans hw385_9), ((HB.out.cell (World.block_lt_of_cell? w _ hw385_10)).trans hw385_10), ((HB.out.cell (World.block_lt_of_cell? w _ hw385_11)).trans hw385_11)⟩ (fun hHeld => ?_); refine with_tabW rampartref18_Set.tab10 rampartref18_Set.bits10 (fun HT_ HW_ => ?_)
        generalize w102.drew = w103 at BK361 BK362 BK363 BK366 HB hx385_0 hx385_1 hx385_10 hx385_11 hx385_2 hx385_3 hx385_4 hx385_5 hx385_6 hx385_7 hx385_8 hx385_9 hHeld ⊢
        refine take_ (i := 0) (N := some 41) (v := ?_) (a' := ?_) #[true, false, false, false, false, false, false, false, false, false, false, false, false, false] rfl rfl (take_ofW HT_.out HW_.out (by kernel_rfl)) (fun _ _ _ h => h) (Or.inl ⟨by rfl, ?_⟩) hHeld ?_ ?_
        rotate_left
        ·rintro w' ⟨s0, s1, s2, s3, s4, s5, s6, s7, s8, s9, s10, s11, s12, s13, s14, s15, s16, s17, s18, s19, s20, s21, s22, s23, s24, s25, s26⟩
         go_simp
         with_reducible rfl
        rotate_left
        ·simp only [Act.put, List.setIfInBounds_toArray, List.set_cons_zero, List.set_cons_succ, i64_w, i32_w]
         rfl
        refine one_ (i := 1) (N := some 42) #[true, true, false, false, false, false, false, false, false, false, false, false, false, false] rfl rfl (one_of HT_.out (by kernel_rfl)) (by decide) (fun K hK => ?_)
        refine goes_ Try.func32 (by kernel_rfl) rfl #[.agg #[.int .i64 a1_0, .int .u8 a1_1, .int .u8 a1_2, .int .u8 a1_3, .int .u32 a1_4, .int .u64 a1_5, .int .i64 a1_6, .int .i64 a1_7, .int .i64 a1_8, .int .u64 a1_9, .int .u64 a1_10, .int .u64 a1_11]] (by rfl) rfl rfl (by (try simp only [List.map_toArray, List.map_cons, List.map_nil]); first | done | rfl | (simp only [List.length_drop, List.length_take]; rfl)) ?_
        with_reducible refine (rampartref17_Left.calls k a1_0 a1_1 a1_2 a1_3 a1_4 a1_5 a1_6 a1_7 a1_8 a1_9 a1_10 a1_11 t384 _ A57.out).mono ?_
        rintro e w104 ⟨rfl, hb⟩
        refine ⟨_, rfl, ?_⟩
        have n0_ := Aside0.mk (blk_below (stp BK361) hb)
        have n1_ := Aside0.mk (blk_below (stp BK362) hb)
        have n2_ := Aside0.mk (blk_below (stp BK363) hb)
        have n3_ := Aside0.mk (blk_below (stp BK366) hb)
        have n4_ := Aside0.mk (below_step (by repeat (first | (with_reducible first | exact HB.out | apply below_alloc | apply pw_below_drewN | apply below_drew1 | refine below_set ?_ GE361.out | refine below_set ?_ GE362.out | refine below_set ?_ GE363.out | refine below_set ?_ GE366.out) | exact HB.out)) hb)
        clear BK361
        clear BK362
        clear BK363
        clear BK366
        clear HB
        have BK361 := n0_
        have BK362 := n1_
        have BK363 := n2_
        have BK366 := n3_
        have HB := n4_
        clear n0_ n1_ n2_ n3_ n4_
        (try clear hb)
        (try clear hb2)
        (try clear hk)
        (try clear hi)
        refine hK.out _ _ ⟨(blk_cell BK362.out 0).trans rfl, (blk_cell BK362.out 1).trans rfl, (blk_cell BK362.out 2).trans rfl, (blk_cell BK362.out 3).trans rfl, (blk_cell BK362.out 4).trans rfl, (blk_cell BK362.out 5).trans rfl, (blk_cell BK362.out 6).trans rfl, (blk_cell BK362.out 7).trans rfl, (blk_cell BK362.out 8).trans rfl, (blk_cell BK362.out 9).trans rfl, (blk_cell BK362.out 10).trans rfl, (blk_cell BK362.out 11).trans rfl, (blk_cell BK361.out 0).trans rfl, (blk_cell BK361.out 1).trans rfl, (blk_cell BK361.out 2).trans rfl, ((HB.out.cell (World.block_lt_of_cell? w _ hw385_0)).trans hw385_0), ((HB.out.cell (World.block_lt_of_cell? w _ hw385_1)).trans hw385_1), ((HB.out.cell (World.block_lt_of_cell? w _ hw385_2)).trans hw385_2), ((HB.out.cell (World.block_lt_of_cell? w _ hw385_3)).trans hw385_3), ((HB.out.cell (World.block_lt_of_cell? w _ hw385_4)).trans hw385_4), ((HB.out.cell (World.block_lt_of_cell? w _ hw385_5)).trans hw385_5), ((HB.out.cell (World.block_lt_of_cell? w _ hw385_6)).trans hw385_6), ((HB.out.cell (World.block_lt_of_cell? w _ hw385_7)).trans hw385_7), ((HB.out.cell (World.block_lt_of_cell? w _ hw385_8)).trans hw385_8), ((HB.out.cell (World.block_lt_of_cell? w _ hw385_9)).trans hw385_9), ((HB.out.cell (World.block_lt_of_cell? w _ hw385_10)).trans hw385_10), ((HB.out.cell (World.block_lt_of_cell? w _ hw385_11)).trans hw385_11)⟩ (fun hHeld => ?_)
        clear hK K
        refine norm_ (a' := ?_) ?_ ?_
        rotate_left
        ·show Act.put _ (some 42) _ = _
         simp only [Act.put, List.setIfInBounds_toArray, List.set_cons_zero, List.set_cons_succ, i64_w, i32_w]
         rfl
        refine pure_ (i := 2) (N := some 43) (v := ?_) (a' := ?_) #[true, true, true, false, false, false, false, false, false, false, false, false, false, false] rfl rfl (any_of HT_.out (by kernel_rfl)) (fun _ _ _ h => h) (Or.inl ⟨by rfl, ?_⟩) ?_ ?_
        rotate_left
        ·intro w'
         go_simp
         with_reducible rfl
        rotate_left
        ·simp only [Act.put, List.setIfInBounds_toArray, List.set_cons_zero, List.set_cons_succ, i64_w, i32_w]
         rfl
        refine pure_ (i := 3) (N := some 44) (v := ?_) (a' := ?_) #[true, true, true, true, false, false, false, false, false, false, false, false, false, false] rfl rfl (any_of HT_.out (by kernel_rfl)) (fun _ _ _ h => h) (Or.inl ⟨by rfl, ?_⟩) ?_ ?_
        rotate_left
        ·intro w'
         go_simp
         with_reducible rfl
        rotate_left
        ·simp only [Act.put, List.setIfInBounds_toArray, List.set_cons_zero, List.set_cons_succ, i64_w, i32_w]
         rfl
        refine pure_ (i := 4) (N := some 45) (v := ?_) (a' := ?_) #[true, true, true, true, true, false, false, false, false, false, false, false, false, false] rfl rfl (any_of HT_.out (by kernel_rfl)) (fun _ _ _ h => h) (Or.inl ⟨by rfl, ?_⟩) ?_ ?_
        rotate_left
        ·intro w'
         go_simp
         with_reducible rfl
        rotate_left
        ·simp only [Act.put, List.setIfInBounds_toArray, List.set_cons_zero, List.set_cons_succ, i64_w, i32_w]
         rfl
        refine pure_ (i := 6) (N := some 47) (v := ?_) (a' := ?_) #[true, true, true, true, true, false, true, false, false, false, false, false, false, false] rfl rfl (any_of HT_.out (by kernel_rfl)) (fun _ _ _ h => h) (Or.inl ⟨by rfl, ?_⟩) ?_ ?_
        rotate_left
        ·intro w'
         go_simp
         with_reducible rfl
        rotate_left
        ·simp only [Act.put, List.setIfInBounds_toArray, List.set_cons_zero, List.set_cons_succ, i64_w, i32_w]
         rfl
        refine pure_ (i := 8) (N := some 49) (v := ?_) (a' := ?_) #[true, true, true, true, true, false, true, false, true, false, false, false, false, false] rfl rfl (any_of HT_.out (by kernel_rfl)) (fun _ _ _ h => h) (Or.inl ⟨by rfl, ?_⟩) ?_ ?_
        rotate_left
        ·intro w'
         go_simp
         with_reducible rfl
        rotate_left
        ·simp only [Act.put, List.setIfInBounds_toArray, List.set_cons_zero, List.set_cons_succ, i64_w, i32_w]
         rfl
        refine take_ (i := 5) (N := some 46) (v := ?_) (a' := ?_) #[true, true, true, true, true, true, true, false, true, false, false, false, false, false] rfl rfl (take_ofW HT_.out HW_.out (by kernel_rfl)) (fun _ _ _ h => h) (Or.inl ⟨by rfl, ?_⟩) hHeld ?_ ?_
        rotate_left
        ·rintro w' ⟨s0, s1, s2, s3, s4, s5, s6, s7, s8, s9, s10, s11, s12, s13, s14, s15, s16, s17, s18, s19, s20, s21, s22, s23, s24, s25, s26⟩
         go_simp
         with_reducible rfl
        rotate_left
        ·simp only [Act.put, List.setIfInBounds_toArray, List.set_cons_zero, List.set_cons_succ, i64_w, i32_w]
         rfl
        refine take_ (i := 7) (N := some 48) (v := ?_) (a' := ?_) #[true, true, true, true, true, true, true, true, true, false, false, false, false, false] rfl rfl (take_ofW HT_.out HW_.out (by kernel_rfl)) (fun _ _ _ h => h) (Or.inl ⟨by rfl, ?_⟩) hHeld ?_ ?_
        rotate_left
        ·rintro w' ⟨s0, s1, s2, s3, s4, s5, s6, s7, s8, s9, s10, s11, s12, s13, s14, s15, s16, s17, s18, s19, s20, s21, s22, s23, s24, s25, s26⟩
         go_simp
         with_reducible rfl
        rotate_left
        ·simp only [Act.put, List.setIfInBounds_toArray, List.set_cons_zero, List.set_cons_succ, i64_w, i32_w]
         rfl
        refine pure_ (i := 9) (N := some 50) (v := ?_) (a' := ?_) #[true, true, true, true, true, true, true, true, true, true, false, false, false, false] rfl rfl (any_of HT_.out (by kernel_rfl)) (fun _ _ _ h => h) (Or.inl ⟨by rfl, ?_⟩) ?_ ?_
        rotate_left
        ·intro w'
         go_simp
         with_reducible rfl
        rotate_left
        ·simp only [Act.put, List.setIfInBounds_toArray, List.set_cons_zero, List.set_cons_succ, i64_w, i32_w]
         rfl
        refine pure_ (i := 10) (N := some 51) (v := ?_) (a' := ?_) #[true, true, true, true, true, true, true, true, true, true, true, false, false, false] rfl rfl (any_of HT_.out (by kernel_rfl)) (fun _ _ _ h => h) (Or.inl ⟨by rfl, ?_⟩) ?_ ?_
        rotate_left
        ·intro w'
         go_simp
         with_reducible rfl
        rotate_left
        ·simp only [Act.put, List.setIfInBounds_toArray, List.set_cons_zero, List.set_cons_succ, i64_w, i32_w]
         rfl
        refine take_ (i := 11) (N := some 52) (v := ?_) (a' := ?_) #[true, true, true, true, true, true, true, true, true, true, true, true, false, false] rfl rfl (take_ofW HT_.out HW_.out (by kernel_rfl)) (fun _ _ _ h => h) (Or.inl ⟨by rfl, ?_⟩) hHeld ?_ ?_
        rotate_left
        ·rintro w' ⟨s0, s1, s2, s3, s4, s5, s6, s7, s8, s9, s10, s11, s12, s13, s14, s15, s16, s17, s18, s19, s20, s21, s22, s23, s24, s25, s26⟩
         go_simp
         with_reducible rfl
        rotate_left
        ·simp only [Act.put, List.setIfInBounds_toArray, List.set_cons_zero, List.set_cons_succ, i64_w, i32_w]
         rfl
        refine pure_ (i := 12) (N := some 53) (v := ?_) (a' := ?_) #[true, true, true, true, true, true, true, true, true, true, true, true, true, false] rfl rfl (any_of HT_.out (by kernel_rfl)) (fun _ _ _ h => h) (Or.inl ⟨by rfl, ?_⟩) ?_ ?_
        rotate_left
        ·intro w'
         go_simp
         with_reducible rfl
        rotate_left
        ·simp only [Act.put, List.setIfInBounds_toArray, List.set_cons_zero, List.set_cons_succ, i64_w, i32_w]
         rfl
        refine pure_ (i := 13) (N := some 54) (v := ?_) (a' := ?_) #[true, true, true, true, true, true, true, true, true, true, true, true, true, true] rfl rfl (any_of HT_.out (by kernel_rfl)) (fun _ _ _ h => h) (Or.inl ⟨by rfl, ?_⟩) ?_ ?_
        rotate_left
        ·intro w'
         go_simp
         with_reducible rfl
        rotate_left
        ·simp only [Act.put, List.setIfInBounds_toArray, List.set_cons_zero, List.set_cons_succ, i64_w, i32_w]
         rfl
        refine done_ (done_of HT_.out (by kernel_rfl)) ?_
        have hcz105_0 : w104.cell? ⟨gb363, 0, none⟩ = some (.int .i64 0) := (blk_cell BK363.out 0).trans rfl
        have hcz105_1 : w104.cell? ⟨gb363, 1, none⟩ = some (.int .i64 0) := (blk_cell BK363.out 1).trans rfl
        have hcz105_2 : w104.cell? ⟨gb363, 2, none⟩ = some (.slice none 0 0) := (blk_cell BK363.out 2).trans rfl
        have hfz105_0 := blk_frozen BK363.out 0
        have hfz105_1 := blk_frozen BK363.out 1
        have hfz105_2 := blk_frozen BK363.out 2
        try go_wp2
        refine bodyPost_ret (results_ct rfl _ _ gb363 24 #[.int .i64 0, .int .i64 0, .slice none 0 0] (0, 0) _ rfl (by refine stq ?_; refine blk_put (cs := #[.int .i64 0, .int .i64 0, .slice none 0 0]) ?_ 2 _ rfl; refine stq ?_; refine blk_put (cs := #[.int .i64 0, .int .i64 0, .slice none 0 0]) ?_ 1 _ rfl; refine stq ?_; refine blk_put (cs := #[.int .i64 0, .int .i64 0, .slice none 0 0]) ?_ 0 _ rfl; refine stq ?_; exact BK363.out) Try.underlying24 rfl (by kernel_rfl)) rfl ?_
        exact ⟨_, by first | rfl | (simp [errW_none, errW_some] <;> rfl) | (simp [*, errW_none, errW_some] <;> rfl), by first | exact Kd.R_nil _ _ _ _ _ | exact Kd.N_nil _ _ _ _ _ | exact Kd.V_nil _ _ _ _ _ | exact Kd.Q_nil _ _ _ _ _ | exact Kd.S_nil _ _ _ _ _, by repeat (first | (with_reducible first | exact HB.out | apply below_alloc | apply pw_below_drewN | apply below_drew1 | refine below_set ?_ GE361.out | refine below_set ?_ GE362.out | refine below_set ?_ GE363.out | refine below_set ?_ GE366.out) | exact HB.out)⟩
       ·rw [if_neg c83] at H
        have c83b0 : (!(a1_1 == ((rd_T42 l0_2 t365).f1.f0)) || (!(a1_2 == ((rd_T42 l0_2 t365).f1.f1)) || (!(a1_3 == ((rd_T42 l0_2 t365).f1.f2)) || (!(a1_4 == ((rd_T42 l0_2 t365).f1.f3)) || (!(a1_5 == ((rd_T42 l0_2 t365).f1.f4))))))) = false := by simpa using c83
        clear c83
        obtain ⟨y386, hy386⟩ : ∃ y_ : List (S42), y_ = (([] : List (S42))) := ⟨_, rfl⟩
        replace H : (if y386.length + l0_2.length < 1954687338268 then ((some (y386 ++ l0_2 : List (S42))).bind fun y389 => (if t365 < (y389.length : Int) then (some (a0_0, a0_1, (y389.set (t365 : Int).toNat (⟨a1_0, (⟨a1_1, a1_2, a1_3, a1_4, a1_5⟩ : S29), a1_6, a1_7, a1_8, (⟨a1_9, a1_10⟩ : S40), a1_11⟩ : S42)), 0)) else (none))) else (none)) = some (r1, r2, r3, r4) := by first | (rw [hy386]; with_reducible exact H) | (have H2_ := (Option.bind_some _ _).symm.trans H; rw [hy386]; with_reducible exact H2_) | (have H2_ := (Option.bind_some _ _).symm.trans H; with_reducible exact H2_) | with_reducible exact H | (rw [hy386]; exact H) | exact H
        have Ny386 := Aside0.mk hy386
        clear hy386
        by_cases c106 : y386.length + l0_2.length < 1954687338268
        ·rw [if_pos c106] at H
         have LMc106 := Aside0.mk c106
         clear c106
         obtain ⟨y389, hy389⟩ : ∃ y_ : List (S42), y_ = (y386 ++ l0_2) := ⟨_, rfl⟩
         replace H : (if t365 < (y389.length : Int) then (some (a0_0, a0_1, (y389.set (t365 : Int).toNat (⟨a1_0, (⟨a1_1, a1_2, a1_3, a1_4, a1_5⟩ : S29), a1_6, a1_7, a1_8, (⟨a1_9, a1_10⟩ : S40), a1_11⟩ : S42)), 0)) else (none)) = some (r1, r2, r3, r4) := by first | (rw [hy389]; with_reducible exact H) | (have H2_ := (Option.bind_some _ _).symm.trans H; rw [hy389]; with_reducible exact H2_) | (have H2_ := (Option.bind_some _ _).symm.trans H; with_reducible exact H2_) | with_reducible exact H | (rw [hy389]; exact H) | exact H
         have Ny389 := Aside0.mk hy389
         clear hy389
         by_cases c107 : t365 < (y389.length : Int)
         ·rw [if_pos c107] at H
          have c107b0 : decide (t365 < (y389.length : Int)) = true := decide_eq_true c107
          clear c107
          obtain ⟨y392, hy392⟩ : ∃ y_ : List (S42), y_ = (y389.set (t365 : Int).toNat (⟨a1_0, (⟨a1_1, a1_2, a1_3, a1_4, a1_5⟩ : S29), a1_6, a1_7, a1_8, (⟨a1_9, a1_10⟩ : S40), a1_11⟩ : S42)) := ⟨_, rfl⟩
          replace H : (some (a0_0, a0_1, y392, 0)) = some (r1, r2, r3, r4) := by first | (rw [hy392]; with_reducible exact H) | (have H2_ := (Option.bind_some _ _).symm.trans H; rw [hy392]; with_reducible exact H2_) | (have H2_ := (Option.bind_some _ _).symm.trans H; with_reducible exact H2_) | with_reducible exact H | (rw [hy392]; exact H) | exact H
          have Ny392 := Aside0.mk hy392
          clear hy392
          simp only [Option.some.injEq, Prod.mk.injEq] at H
          obtain ⟨rfl, rfl, rfl, rfl⟩ := H
          go_enter Try.func17, Try.ntmps17
          try go_wp2_with (first | ((with_reducible refine gate_dst (N := 2) rfl ?_); refine box_event ?hg (N := 2) ?hd (cs := #[.int .i64 a0_0, .int .i64 a0_1, .slice A0_2 l0_2.length c0_2]) (t := 24) ?hr ?_; (case hd => rfl); (case hg => rfl); (case hr => first | (go_simp; done) | (go_simp; rfl)); intro gb361 hg w109 hbox hb; have ⟨n0_, n2_⟩ := pkB (stb HB) hb hg; have n3_ := n2_; have n1_ := Aside0.mk (hbox); clear HB; have HB := n0_; have BK361 := n1_; have GW361 := n2_; have GE361 := n3_; clear n0_ n1_ n2_ n3_; clear hb hbox hg) | ((with_reducible refine gate_dst (N := 3) rfl ?_); refine box_event ?hg (N := 3) ?hd (cs := #[.int .i64 a1_0, .int .u8 a1_1, .int .u8 a1_2, .int .u8 a1_3, .int .u32 a1_4, .int .u64 a1_5, .int .i64 a1_6, .int .i64 a1_7, .int .i64 a1_8, .int .u64 a1_9, .int .u64 a1_10, .int .u64 a1_11]) (t := 42) ?hr ?_; (case hd => rfl); (case hg => rfl); (case hr => first | (go_simp; done) | (go_simp; rfl)); intro gb362 hg w110 hbox hb; have ⟨n0_, n5_, n6_⟩ := pkK (stp BK361) hb hg; have ⟨n1_, n3_⟩ := pkB (w := w) (by repeat (first | (with_reducible first | exact HB.out | apply below_alloc | apply pw_below_drewN | apply below_drew1 | refine below_set ?_ GE361.out) | exact HB.out)) hb hg; have n4_ := n3_; have n2_ := Aside0.mk (hbox); clear BK361; clear HB; have BK361 := n0_; have HB := n1_; have BK362 := n2_; have GW362 := n3_; have GE362 := n4_; have NB361_362 := n5_; have NB362_361 := n6_; clear n0_ n1_ n2_ n3_ n4_ n5_ n6_; clear hb hbox hg) | ((with_reducible refine gate_dst (N := 4) rfl ?_); refine box_event ?hg (N := 4) ?hd (cs := #[.int .i64 0, .int .i64 0, .slice none 0 0]) (t := 24) ?hr ?_; (case hd => rfl); (case hg => rfl); (case hr => first | (go_simp; done) | (go_simp; rfl)); intro gb363 hg w111 hbox hb; have ⟨n0_, n6_, n7_⟩ := pkK (stp BK361) hb hg; have ⟨n1_, n8_, n9_⟩ := pkK (stp BK362) hb hg; have ⟨n2_, n4_⟩ := pkB (w := w) (by repeat (first | (with_reducible first | exact HB.out | apply below_alloc | apply pw_below_drewN | apply below_drew1 | refine below_set ?_ GE361.out | refine below_set ?_ GE362.out) | exact HB.out)) hb hg; have n5_ := n4_; have n3_ := Aside0.mk (hbox); clear BK361; clear BK362; clear HB; have BK361 := n0_; have BK362 := n1_; have HB := n2_; have BK363 := n3_; have GW363 := n4_; have GE363 := n5_; have NB361_363 := n6_; have NB363_361 := n7_; have NB362_363 := n8_; have NB363_362 := n9_; clear n0_ n1_ n2_ n3_ n4_ n5_ n6_ n7_ n8_ n9_; clear hb hbox hg; have hnb112 := NB361_362.out; have hnc112 := NB362_361.out; have hnb113 := NB361_363.out; have hnc113 := NB363_361.out; have hcz114_0 : w111.cell? ⟨gb361, 0, none⟩ = some (.int .i64 a0_0) := (blk_cell BK361.out 0).trans rfl; have hcz114_1 : w111.cell? ⟨gb361, 1, none⟩ = some (.int .i64 a0_1) := (blk_cell BK361.out 1).trans rfl; have hcz114_2 : w111.cell? ⟨gb361, 2, none⟩ = some (.slice A0_2 l0_2.length c0_2) := (blk_cell BK361.out 2).trans rfl; have hfz114_0 := blk_frozen BK361.out 0; have hfz114_1 := blk_frozen BK361.out 1; have hfz114_2 := blk_frozen BK361.out 2) | ((with_reducible refine gate_callee (f := 21) rfl ?_); refine goesL_ (some 9) rfl rfl Try.func21 (by kernel_rfl) rfl #[.agg #[.int .i64 a0_0, .int .i64 a0_1, .slice A0_2 l0_2.length c0_2]] rfl (by (try simp only [List.map_toArray, List.map_cons, List.map_nil]); first | done | rfl | (simp only [List.length_drop, List.length_take]; rfl)) ?_; (with_reducible refine (rampartref18_Check.calls k a0_0 a0_1 _ _ l0_2 t364 _ ?side1 ?side2 A3.out).mono ?_); (case side1 => repeat (first | exact (Kd.C_below HR0_2.out HB.out) | (with_reducible refine Kd.C_alloc ?_ _) | (with_reducible refine Kd.C_drewN ?_ _) | (with_reducible refine Kd.C_drew ?_))); (case side2 => exact HC0_2.out); rintro e w115 ⟨rfl, hb⟩; refine ⟨_, rfl, ?_⟩; have n0_ := Aside0.mk (blk_below (stp BK361) hb); have n1_ := Aside0.mk (blk_below (stp BK362) hb); have n2_ := Aside0.mk (blk_below (stp BK363) hb); have n3_ := Aside0.mk (below_step (by repeat (first | (with_reducible first | exact HB.out | apply below_alloc | apply pw_below_drewN | apply below_drew1 | refine below_set ?_ GE361.out | refine below_set ?_ GE362.out | refine below_set ?_ GE363.out) | exact HB.out)) hb); clear BK361; clear BK362; clear BK363; clear HB; have BK361 := n0_; have BK362 := n1_; have BK363 := n2_; have HB := n3_; clear n0_ n1_ n2_ n3_; (try clear hb); (try clear hb2); (try clear hk); (try clear hi); have hcz116_0 : w115.cell? ⟨gb361, 0, none⟩ = some (.int .i64 a0_0) := (blk_cell BK361.out 0).trans rfl; have hcz116_1 : w115.cell? ⟨gb361, 1, none⟩ = some (.int .i64 a0_1) := (blk_cell BK361.out 1).trans rfl; have hcz116_2 : w115.cell? ⟨gb361, 2, none⟩ = some (.slice A0_2 l0_2.length c0_2) := (blk_cell BK361.out 2).trans rfl; have hfz116_0 := blk_frozen BK361.out 0; have hfz116_1 := blk_frozen BK361.out 1; have hfz116_2 := blk_frozen BK361.out 2; have hnb117 := NB362_363.out; have hnc117 := NB363_362.out; have hcz118_0 : w115.cell? ⟨gb362, 0, none⟩ = some (.int .i64 a1_0) := (blk_cell BK362.out 0).trans rfl; have hcz118_1 : w115.cell? ⟨gb362, 1, none⟩ = some (.int .u8 a1_1) := (blk_cell BK362.out 1).trans rfl; have hcz118_2 : w115.cell? ⟨gb362, 2, none⟩ = some (.int .u8 a1_2) := (blk_cell BK362.out 2).trans rfl; have hcz118_3 : w115.cell? ⟨gb362, 3, none⟩ = some (.int .u8 a1_3) := (blk_cell BK362.out 3).trans rfl; have hcz118_4 : w115.cell? ⟨gb362, 4, none⟩ = some (.int .u32 a1_4) := (blk_cell BK362.out 4).trans rfl; have hcz118_5 : w115.cell? ⟨gb362, 5, none⟩ = some (.int .u64 a1_5) := (blk_cell BK362.out 5).trans rfl; have hcz118_6 : w115.cell? ⟨gb362, 6, none⟩ = some (.int .i64 a1_6) := (blk_cell BK362.out 6).trans rfl; have hcz118_7 : w115.cell? ⟨gb362, 7, none⟩ = some (.int .i64 a1_7) := (blk_cell BK362.out 7).trans rfl; have hcz118_8 : w115.cell? ⟨gb362, 8, none⟩ = some (.int .i64 a1_8) := (blk_cell BK362.out 8).trans rfl; have hcz118_9 : w115.cell? ⟨gb362, 9, none⟩ = some (.int .u64 a1_9) := (blk_cell BK362.out 9).trans rfl; have hcz118_10 : w115.cell? ⟨gb362, 10, none⟩ = some (.int .u64 a1_10) := (blk_cell BK362.out 10).trans rfl; have hcz118_11 : w115.cell? ⟨gb362, 11, none⟩ = some (.int .u64 a1_11) := (blk_cell BK362.out 11).trans rfl; have hfz118_0 := blk_frozen BK362.out 0; have hfz118_1 := blk_frozen BK362.out 1; have hfz118_2 := blk_frozen BK362.out 2; have hfz118_3 := blk_frozen BK362.out 3; have hfz118_4 := blk_frozen BK362.out 4; have hfz118_5 := blk_frozen BK362.out 5; have hfz118_6 := blk_frozen BK362.out 6; have hfz118_7 := blk_frozen BK362.out 7; have hfz118_8 := blk_frozen BK362.out 8; have hfz118_9 := blk_frozen BK362.out 9; have hfz118_10 := blk_frozen BK362.out 10; have hfz118_11 := blk_frozen BK362.out 11) | ((with_reducible refine gate_callee (f := 30) rfl ?_); refine goesL_ (some 15) rfl rfl Try.func30 (by kernel_rfl) rfl #[.agg #[.int .i64 a0_0, .int .i64 a0_1, .slice A0_2 l0_2.length c0_2], .int .i64 a1_0] rfl (by (try simp only [List.map_toArray, List.map_cons, List.map_nil]); first | done | rfl | (simp only [List.length_drop, List.length_take]; rfl)) ?_; (with_reducible refine (rampartref18_place.calls k a0_0 a0_1 _ _ l0_2 a1_0 t365 _ ?side1 ?side2 A5.out).mono ?_); (case side1 => repeat (first | exact (Kd.C_below HR0_2.out HB.out) | (with_reducible refine Kd.C_alloc ?_ _) | (with_reducible refine Kd.C_drewN ?_ _) | (with_reducible refine Kd.C_drew ?_))); (case side2 => exact HC0_2.out); rintro e w119 ⟨rfl, hb⟩; refine ⟨_, rfl, ?_⟩; have n0_ := Aside0.mk (blk_below (stp BK361) hb); have n1_ := Aside0.mk (blk_below (stp BK362) hb); have n2_ := Aside0.mk (blk_below (stp BK363) hb); have n3_ := Aside0.mk (below_step (by repeat (first | (with_reducible first | exact HB.out | apply below_alloc | apply pw_below_drewN | apply below_drew1 | refine below_set ?_ GE361.out | refine below_set ?_ GE362.out | refine below_set ?_ GE363.out) | exact HB.out)) hb); clear BK361; clear BK362; clear BK363; clear HB; have BK361 := n0_; have BK362 := n1_; have BK363 := n2_; have HB := n3_; clear n0_ n1_ n2_ n3_; (try clear hb); (try clear hb2); (try clear hk); (try clear hi); have hcz120_0 : w119.cell? ⟨gb361, 0, none⟩ = some (.int .i64 a0_0) := (blk_cell BK361.out 0).trans rfl; have hcz120_1 : w119.cell? ⟨gb361, 1, none⟩ = some (.int .i64 a0_1) := (blk_cell BK361.out 1).trans rfl; have hcz120_2 : w119.cell? ⟨gb361, 2, none⟩ = some (.slice A0_2 l0_2.length c0_2) := (blk_cell BK361.out 2).trans rfl; have hfz120_0 := blk_frozen BK361.out 0; have hfz120_1 := blk_frozen BK361.out 1; have hfz120_2 := blk_frozen BK361.out 2) | ((with_reducible refine gate_dst (N := 7) rfl ?_); refine box_event ?hg (N := 7) ?hd (cs := #[.int .i64 0, .int .i64 0, .slice none 0 0]) (t := 24) ?hr ?_; (case hd => rfl); (case hg => rfl); (case hr => first | (go_simp; done) | (go_simp; rfl)); intro gb366 hg w121 hbox hb; have ⟨n0_, n7_, n8_⟩ := pkK (stp BK361) hb hg; have ⟨n1_, n9_, n10_⟩ := pkK (stp BK362) hb hg; have ⟨n2_, n11_, n12_⟩ := pkK (stp BK363) hb hg; have ⟨n3_, n5_⟩ := pkB (w := w) (by repeat (first | (with_reducible first | exact HB.out | apply below_alloc | apply pw_below_drewN | apply below_drew1 | refine below_set ?_ GE361.out | refine below_set ?_ GE362.out | refine below_set ?_ GE363.out) | exact HB.out)) hb hg; have n6_ := n5_; have n4_ := Aside0.mk (hbox); clear BK361; clear BK362; clear BK363; clear HB; have BK361 := n0_; have BK362 := n1_; have BK363 := n2_; have HB := n3_; have BK366 := n4_; have GW366 := n5_; have GE366 := n6_; have NB361_366 := n7_; have NB366_361 := n8_; have NB362_366 := n9_; have NB366_362 := n10_; have NB363_366 := n11_; have NB366_363 := n12_; clear n0_ n1_ n2_ n3_ n4_ n5_ n6_ n7_ n8_ n9_ n10_ n11_ n12_; clear hb hbox hg; have hnb122 := NB366_361.out; have hnc122 := NB361_366.out; have hnb123 := NB366_362.out; have hnc123 := NB362_366.out; have hnb124 := NB366_363.out; have hnc124 := NB363_366.out; have hcz125_0 : w121.cell? ⟨gb366, 0, none⟩ = some (.int .i64 0) := (blk_cell BK366.out 0).trans rfl; have hcz125_1 : w121.cell? ⟨gb366, 1, none⟩ = some (.int .i64 0) := (blk_cell BK366.out 1).trans rfl; have hcz125_2 : w121.cell? ⟨gb366, 2, none⟩ = some (.slice none 0 0) := (blk_cell BK366.out 2).trans rfl; have hfz125_0 := blk_frozen BK366.out 0; have hfz125_1 := blk_frozen BK366.out 1; have hfz125_2 := blk_frozen BK366.out 2; have hcz126_0 : w121.cell? ⟨gb362, 0, none⟩ = some (.int .i64 a1_0) := (blk_cell BK362.out 0).trans rfl; have hcz126_1 : w121.cell? ⟨gb362, 1, none⟩ = some (.int .u8 a1_1) := (blk_cell BK362.out 1).trans rfl; have hcz126_2 : w121.cell? ⟨gb362, 2, none⟩ = some (.int .u8 a1_2) := (blk_cell BK362.out 2).trans rfl; have hcz126_3 : w121.cell? ⟨gb362, 3, none⟩ = some (.int .u8 a1_3) := (blk_cell BK362.out 3).trans rfl; have hcz126_4 : w121.cell? ⟨gb362, 4, none⟩ = some (.int .u32 a1_4) := (blk_cell BK362.out 4).trans rfl; have hcz126_5 : w121.cell? ⟨gb362, 5, none⟩ = some (.int .u64 a1_5) := (blk_cell BK362.out 5).trans rfl; have hcz126_6 : w121.cell? ⟨gb362, 6, none⟩ = some (.int .i64 a1_6) := (blk_cell BK362.out 6).trans rfl; have hcz126_7 : w121.cell? ⟨gb362, 7, none⟩ = some (.int .i64 a1_7) := (blk_cell BK362.out 7).trans rfl; have hcz126_8 : w121.cell? ⟨gb362, 8, none⟩ = some (.int .i64 a1_8) := (blk_cell BK362.out 8).trans rfl; have hcz126_9 : w121.cell? ⟨gb362, 9, none⟩ = some (.int .u64 a1_9) := (blk_cell BK362.out 9).trans rfl; have hcz126_10 : w121.cell? ⟨gb362, 10, none⟩ = some (.int .u64 a1_10) := (blk_cell BK362.out 10).trans rfl; have hcz126_11 : w121.cell? ⟨gb362, 11, none⟩ = some (.int .u64 a1_11) := (blk_cell BK362.out 11).trans rfl; have hfz126_0 := blk_frozen BK362.out 0; have hfz126_1 := blk_frozen BK362.out 1; have hfz126_2 := blk_frozen BK362.out 2; have hfz126_3 := blk_frozen BK362.out 3; have hfz126_4 := blk_frozen BK362.out 4; have hfz126_5 := blk_frozen BK362.out 5; have hfz126_6 := blk_frozen BK362.out 6; have hfz126_7 := blk_frozen BK362.out 7; have hfz126_8 := blk_frozen BK362.out 8; have hfz126_9 := blk_frozen BK362.out 9; have hfz126_10 := blk_frozen BK362.out 10; have hfz126_11 := blk_frozen BK362.out 11))
          have n0_ : Aside0 ((((w121.setCell ⟨gb366, 0, none⟩ (.int .i64 a0_0)).setCell ⟨gb366, 1, none⟩ (.int .i64 a0_1)).setCell ⟨gb366, 2, none⟩ (.slice none 0 0)).heap[gb361]? = some (.cells #[.int .i64 a0_0, .int .i64 a0_1, .slice A0_2 l0_2.length c0_2] 24 (0, 0))) := ⟨by refine stq ?_; refine blk_far ?_ NB361_366.out _; refine stq ?_; refine blk_far ?_ NB361_366.out _; refine stq ?_; refine blk_far ?_ NB361_366.out _; refine stq ?_; exact BK361.out⟩
          have n1_ : Aside0 ((((w121.setCell ⟨gb366, 0, none⟩ (.int .i64 a0_0)).setCell ⟨gb366, 1, none⟩ (.int .i64 a0_1)).setCell ⟨gb366, 2, none⟩ (.slice none 0 0)).heap[gb362]? = some (.cells #[.int .i64 a1_0, .int .u8 a1_1, .int .u8 a1_2, .int .u8 a1_3, .int .u32 a1_4, .int .u64 a1_5, .int .i64 a1_6, .int .i64 a1_7, .int .i64 a1_8, .int .u64 a1_9, .int .u64 a1_10, .int .u64 a1_11] 42 (0, 0))) := ⟨by refine stq ?_; refine blk_far ?_ NB362_366.out _; refine stq ?_; refine blk_far ?_ NB362_366.out _; refine stq ?_; refine blk_far ?_ NB362_366.out _; refine stq ?_; exact BK362.out⟩
          have n2_ : Aside0 ((((w121.setCell ⟨gb366, 0, none⟩ (.int .i64 a0_0)).setCell ⟨gb366, 1, none⟩ (.int .i64 a0_1)).setCell ⟨gb366, 2, none⟩ (.slice none 0 0)).heap[gb363]? = some (.cells #[.int .i64 0, .int .i64 0, .slice none 0 0] 24 (0, 0))) := ⟨by refine stq ?_; refine blk_far ?_ NB363_366.out _; refine stq ?_; refine blk_far ?_ NB363_366.out _; refine stq ?_; refine blk_far ?_ NB363_366.out _; refine stq ?_; exact BK363.out⟩
          have n3_ : Aside0 ((((w121.setCell ⟨gb366, 0, none⟩ (.int .i64 a0_0)).setCell ⟨gb366, 1, none⟩ (.int .i64 a0_1)).setCell ⟨gb366, 2, none⟩ (.slice none 0 0)).heap[gb366]? = some (.cells #[.int .i64 a0_0, .int .i64 a0_1, .slice none 0 0] 24 (0, 0))) := ⟨by refine stq ?_; refine blk_put (cs := #[.int .i64 a0_0, .int .i64 a0_1, .slice none 0 0]) ?_ 2 _ rfl; refine stq ?_; refine blk_put (cs := #[.int .i64 a0_0, .int .i64 0, .slice none 0 0]) ?_ 1 _ rfl; refine stq ?_; refine blk_put (cs := #[.int .i64 0, .int .i64 0, .slice none 0 0]) ?_ 0 _ rfl; refine stq ?_; exact BK366.out⟩
          have n4_ : Aside0 (Below w.heap.size w (((w121.setCell ⟨gb366, 0, none⟩ (.int .i64 a0_0)).setCell ⟨gb366, 1, none⟩ (.int .i64 a0_1)).setCell ⟨gb366, 2, none⟩ (.slice none 0 0))) := ⟨by repeat (first | (with_reducible first | exact HB.out | apply below_alloc | apply pw_below_drewN | apply below_drew1 | refine below_set ?_ GE361.out | refine below_set ?_ GE362.out | refine below_set ?_ GE363.out | refine below_set ?_ GE366.out) | exact HB.out)⟩
          (try clear BK361)
          (try clear BK362)
          (try clear BK363)
          (try clear BK366)
          (try clear HB)
          generalize (((w121.setCell ⟨gb366, 0, none⟩ (.int .i64 a0_0)).setCell ⟨gb366, 1, none⟩ (.int .i64 a0_1)).setCell ⟨gb366, 2, none⟩ (.slice none 0 0)) = w127 at n0_ n1_ n2_ n3_ n4_ ⊢
          have BK361 := n0_
          have BK362 := n1_
          have BK363 := n2_
          have BK366 := n3_
          have HB := n4_
          clear n0_ n1_ n2_ n3_ n4_
          have n0_ := Aside0.mk (blk_drew BK361.out)
          have n1_ := Aside0.mk (blk_drew BK362.out)
          have n2_ := Aside0.mk (blk_drew BK363.out)
          have n3_ := Aside0.mk (blk_drew BK366.out)
          have n4_ := Aside0.mk (below_drew1 HB.out)
          clear BK361
          clear BK362
          clear BK363
          clear BK366
          clear HB
          have BK361 := n0_
          have BK362 := n1_
          have BK363 := n2_
          have BK366 := n3_
          have HB := n4_
          clear n0_ n1_ n2_ n3_ n4_
          have p385 : 0 ≤ (t365 : Int) := of_decide_eq_true (by first | (with_reducible assumption) | assumption)
          have q385 : t365 < (l0_2.length : Int) := of_decide_eq_true (by first | (with_reducible assumption) | assumption)
          obtain ⟨ad385, e385, hx385_0, hx385_1, hx385_2, hx385_3, hx385_4, hx385_5, hx385_6, hx385_7, hx385_8, hx385_9, hx385_10, hx385_11⟩ := at_T42 HR0_2.out t365 p385 q385
          have hw385_11 := hx385_11
          have hw385_10 := hx385_10
          have hw385_9 := hx385_9
          have hw385_8 := hx385_8
          have hw385_7 := hx385_7
          have hw385_6 := hx385_6
          have hw385_5 := hx385_5
          have hw385_4 := hx385_4
          have hw385_3 := hx385_3
          have hw385_2 := hx385_2
          have hw385_1 := hx385_1
          have hw385_0 := hx385_0
          cases e385
          replace hx385_0 := (HB.out.cell (World.block_lt_of_cell? w _ hx385_0)).trans hx385_0
          replace hx385_1 := (HB.out.cell (World.block_lt_of_cell? w _ hx385_1)).trans hx385_1
          replace hx385_2 := (HB.out.cell (World.block_lt_of_cell? w _ hx385_2)).trans hx385_2
          replace hx385_3 := (HB.out.cell (World.block_lt_of_cell? w _ hx385_3)).trans hx385_3
          replace hx385_4 := (HB.out.cell (World.block_lt_of_cell? w _ hx385_4)).trans hx385_4
          replace hx385_5 := (HB.out.cell (World.block_lt_of_cell? w _ hx385_5)).trans hx385_5
          replace hx385_6 := (HB.out.cell (World.block_lt_of_cell? w _ hx385_6)).trans hx385_6
          replace hx385_7 := (HB.out.cell (World.block_lt_of_cell? w _ hx385_7)).trans hx385_7
          replace hx385_8 := (HB.out.cell (World.block_lt_of_cell? w _ hx385_8)).trans hx385_8
          replace hx385_9 := (HB.out.cell (World.block_lt_of_cell? w _ hx385_9)).trans hx385_9
          replace hx385_10 := (HB.out.cell (World.block_lt_of_cell? w _ hx385_10)).trans hx385_10
          replace hx385_11 := (HB.out.cell (World.block_lt_of_cell? w _ hx385_11)).trans hx385_11
          replace p385 := eq_true p385
          replace q385 := eq_true q385
          refine start_ (n := 14) (S := fun w' => w'.cell? ⟨gb362, 0, none⟩ = some (.int .i64 a1_0) ∧ w'.cell? ⟨gb362, 1, none⟩ = some (.int .u8 a1_1) ∧ w'.cell? ⟨gb362, 2, none⟩ = some (.int .u8 a1_2) ∧ w'.cell? ⟨gb362, 3, none⟩ = some (.int .u8 a1_3) ∧ w'.cell? ⟨gb362, 4, none⟩ = some (.int .u32 a1_4) ∧ w'.cell? ⟨gb362, 5, none⟩ = some (.int .u64 a1_5) ∧ w'.cell? ⟨gb362, 6, none⟩ = some (.int .i64 a1_6) ∧ w'.cell? ⟨gb362, 7, none⟩ = some (.int .i64 a1_7) ∧ w'.cell? ⟨gb362, 8, none⟩ = some (.int .i64 a1_8) ∧ w'.cell? ⟨gb362, 9, none⟩ = some (.int .u64 a1_9) ∧ w'.cell? ⟨gb362, 10, none⟩ = some (.int .u64 a1_10) ∧ w'.cell? ⟨gb362, 11, none⟩ = some (.int .u64 a1_11) ∧ w'.cell? ⟨gb361, 0, none⟩ = some (.int .i64 a0_0) ∧ w'.cell? ⟨gb361, 1, none⟩ = some (.int .i64 a0_1) ∧ w'.cell? ⟨gb361, 2, none⟩ = some (.slice (some ad385) l0_2.length c0_2) ∧ w'.cell? (ad385.add ((t365).toNat * 12)) = some (.int .i64 ((rd_T42 l0_2 t365).f0)) ∧ w'.cell? ⟨(ad385.add ((t365).toNat * 12)).block, (ad385.add ((t365).toNat * 12)).off + 1, none⟩ = some (.int .u8 ((rd_T42 l0_2 t365).f1.f0)) ∧ w'.cell? ⟨(ad385.add ((t365).toNat * 12)).block, (ad385.add ((t365).toNat * 12)).off + 2, none⟩ = some (.int .u8 ((rd_T42 l0_2 t365).f1.f1)) ∧ w'.cell? ⟨(ad385.add ((t365).toNat * 12)).block, (ad385.add ((t365).toNat * 12)).off + 3, none⟩ = some (.int .u8 ((rd_T42 l0_2 t365).f1.f2)) ∧ w'.cell? ⟨(ad385.add ((t365).toNat * 12)).block, (ad385.add ((t365).toNat * 12)).off + 4, none⟩ = some (.int .u32 ((rd_T42 l0_2 t365).f1.f3)) ∧ w'.cell? ⟨(ad385.add ((t365).toNat * 12)).block, (ad385.add ((t365).toNat * 12)).off + 5, none⟩ = some (.int .u64 ((rd_T42 l0_2 t365).f1.f4)) ∧ w'.cell? ⟨(ad385.add ((t365).toNat * 12)).block, (ad385.add ((t365).toNat * 12)).off + 6, none⟩ = some (.int .i64 ((rd_T42 l0_2 t365).f2)) ∧ w'.cell? ⟨(ad385.add ((t365).toNat * 12)).block, (ad385.add ((t365).toNat * 12)).off + 7, none⟩ = some (.int .i64 ((rd_T42 l0_2 t365).f3)) ∧ w'.cell? ⟨(ad385.add ((t365).toNat * 12)).block, (ad385.add ((t365).toNat * 12)).off + 8, none⟩ = some (.int .i64 ((rd_T42 l0_2 t365).f4)) ∧ w'.cell? ⟨(ad385.add ((t365).toNat * 12)).block, (ad385.add ((t365).toNat * 12)).off + 9, none⟩ = some (.int .u64 ((rd_T42 l0_2 t365).f5.f0)) ∧ w'.cell? ⟨(ad385.add ((t365).toNat * 12)).block, (ad385.add ((t365).toNat * 12)).off + 10, none⟩ = some (.int .u64 ((rd_T42 l0_2 t365).f5.f1)) ∧ w'.cell? ⟨(ad385.add ((t365).toNat * 12)).block, (ad385.add ((t365).toNat * 12)).off + 11, none⟩ = some (.int .u64 ((rd_T42 l0_2 t365).f6))) (ds := []) #[false, false, false, false, false, false, false, false, false, false, false, false, false, false] (by kernel_rfl) rfl rfl ⟨(blk_cell BK362.out 0).trans rfl, (blk_cell BK362.out 1).trans rfl, (blk_cell BK362.out 2).trans rfl, (blk_cell BK362.out 3).trans rfl, (blk_cell BK362.out 4).trans rfl, (blk_cell BK362.out 5).trans rfl, (blk_cell BK362.out 6).trans rfl, (blk_cell BK362.out 7).trans rfl, (blk_cell BK362.out 8).trans rfl, (blk_cell BK362.out 9).trans rfl, (blk_cell BK362.out 10).trans rfl, (blk_cell BK362.out 11).trans rfl, (blk_cell BK361.out 0).trans rfl, (blk_cell BK361.out 1).trans rfl, (blk_cell BK361.out 2).trans rfl, ((HB.out.cell (World.block_lt_of_cell? w _ hw385_0)).trans hw385_0), ((HB.out.cell (World.block_lt_of_cell? w _ hw385_1)).trans hw385_1), ((HB.out.cell (World.block_lt_of_cell? w _ hw385_2)).trans hw385_2), ((HB.out.cell (World.block_lt_of_cell? w _ hw385_3)).trans hw385_3), ((HB.out.cell (World.block_lt_of_cell? w _ hw385_4)).trans hw385_4), ((HB.out.cell (World.block_lt_of_cell? w _ hw385_5)).trans hw385_5), ((HB.out.cell (World.block_lt_of_cell? w _ hw385_6)).trans hw385_6), ((HB.out.cell (World.block_lt_of_cell? w _ hw385_7)).trans hw385_7), ((HB.out.cell (World.block_lt_of_cell? w _ hw385_8)).trans hw385_8), ((HB.out.cell (World.block_lt_of_cell? w _ hw385_9)).trans hw385_9), ((HB.out.cell (World.block_lt_of_cell? w _ hw385_10)).trans hw385_10), ((HB.out.cell (World.block_lt_of_cell? w _ hw385_11)).trans hw385_11)⟩ (fun hHeld => ?_); refine with_tabW rampartref18_Set.tab10 rampartref18_Set.bits10 (fun HT_ HW_ => ?_)
          generalize w127.drew = w128 at BK361 BK362 BK363 BK366 HB hx385_0 hx385_1 hx385_10 hx385_11 hx385_2 hx385_3 hx385_4 hx385_5 hx385_6 hx385_7 hx385_8 hx385_9 hHeld ⊢
          refine take_ (i := 0) (N := some 41) (v := ?_) (a' := ?_) #[true, false, false, false, false, false, false, false, false, false, false, false, false, false] rfl rfl (take_ofW HT_.out HW_.out (by kernel_rfl)) (fun _ _ _ h => h) (Or.inl ⟨by rfl, ?_⟩) hHeld ?_ ?_
          rotate_left
          ·rintro w' ⟨s0, s1, s2, s3, s4, s5, s6, s7, s8, s9, s10, s11, s12, s13, s14, s15, s16, s17, s18, s19, s20, s21, s22, s23, s24, s25, s26⟩
           go_simp
           with_reducible rfl
          rotate_left
          ·simp only [Act.put, List.setIfInBounds_toArray, List.set_cons_zero, List.set_cons_succ, i64_w, i32_w]
           rfl
          refine one_ (i := 1) (N := some 42) #[true, true, false, false, false, false, false, false, false, false, false, false, false, false] rfl rfl (one_of HT_.out (by kernel_rfl)) (by decide) (fun K hK => ?_)
          refine goes_ Try.func32 (by kernel_rfl) rfl #[.agg #[.int .i64 a1_0, .int .u8 a1_1, .int .u8 a1_2, .int .u8 a1_3, .int .u32 a1_4, .int .u64 a1_5, .int .i64 a1_6, .int .i64 a1_7, .int .i64 a1_8, .int .u64 a1_9, .int .u64 a1_10, .int .u64 a1_11]] (by rfl) rfl rfl (by (try simp only [List.map_toArray, List.map_cons, List.map_nil]); first | done | rfl | (simp only [List.length_drop, List.length_take]; rfl)) ?_
          with_reducible refine (rampartref17_Left.calls k a1_0 a1_1 a1_2 a1_3 a1_4 a1_5 a1_6 a1_7 a1_8 a1_9 a1_10 a1_11 t384 _ A57.out).mono ?_
          rintro e w129 ⟨rfl, hb⟩
          refine ⟨_, rfl, ?_⟩
          have n0_ := Aside0.mk (blk_below (stp BK361) hb)
          have n1_ := Aside0.mk (blk_below (stp BK362) hb)
          have n2_ := Aside0.mk (blk_below (stp BK363) hb)
          have n3_ := Aside0.mk (blk_below (stp BK366) hb)
          have n4_ := Aside0.mk (below_step (by repeat (first | (with_reducible first | exact HB.out | apply below_alloc | apply pw_below_drewN | apply below_drew1 | refine below_set ?_ GE361.out | refine below_set ?_ GE362.out | refine below_set ?_ GE363.out | refine below_set ?_ GE366.out) | exact HB.out)) hb)
          clear BK361
          clear BK362
          clear BK363
          clear BK366
          clear HB
          have BK361 := n0_
          have BK362 := n1_
          have BK363 := n2_
          have BK366 := n3_
          have HB := n4_
          clear n0_ n1_ n2_ n3_ n4_
          (try clear hb)
          (try clear hb2)
          (try clear hk)
          (try clear hi)
          refine hK.out _ _ ⟨(blk_cell BK362.out 0).trans rfl, (blk_cell BK362.out 1).trans rfl, (blk_cell BK362.out 2).trans rfl, (blk_cell BK362.out 3).trans rfl, (blk_cell BK362.out 4).trans rfl, (blk_cell BK362.out 5).trans rfl, (blk_cell BK362.out 6).trans rfl, (blk_cell BK362.out 7).trans rfl, (blk_cell BK362.out 8).trans rfl, (blk_cell BK362.out 9).trans rfl, (blk_cell BK362.out 10).trans rfl, (blk_cell BK362.out 11).trans rfl, (blk_cell BK361.out 0).trans rfl, (blk_cell BK361.out 1).trans rfl, (blk_cell BK361.out 2).trans rfl, ((HB.out.cell (World.block_lt_of_cell? w _ hw385_0)).trans hw385_0), ((HB.out.cell (World.block_lt_of_cell? w _ hw385_1)).trans hw385_1), ((HB.out.cell (World.block_lt_of_cell? w _ hw385_2)).trans hw385_2), ((HB.out.cell (World.block_lt_of_cell? w _ hw385_3)).trans hw385_3), ((HB.out.cell (World.block_lt_of_cell? w _ hw385_4)).trans hw385_4), ((HB.out.cell (World.block_lt_of_cell? w _ hw385_5)).trans hw385_5), ((HB.out.cell (World.block_lt_of_cell? w _ hw385_6)).trans hw385_6), ((HB.out.cell (World.block_lt_of_cell? w _ hw385_7)).trans hw385_7), ((HB.out.cell (World.block_lt_of_cell? w _ hw385_8)).trans hw385_8), ((HB.out.cell (World.block_lt_of_cell? w _ hw385_9)).trans hw385_9), ((HB.out.cell (World.block_lt_of_cell? w _ hw385_10)).trans hw385_10), ((HB.out.cell (World.block_lt_of_cell? w _ hw385_11)).trans hw385_11)⟩ (fun hHeld => ?_)
          clear hK K
          refine norm_ (a' := ?_) ?_ ?_
          rotate_left
          ·show Act.put _ (some 42) _ = _
           simp only [Act.put, List.setIfInBounds_toArray, List.set_cons_zero, List.set_cons_succ, i64_w, i32_w]
           rfl
          refine pure_ (i := 2) (N := some 43) (v := ?_) (a' := ?_) #[true, true, true, false, false, false, false, false, false, false, false, false, false, false] rfl rfl (any_of HT_.out (by kernel_rfl)) (fun _ _ _ h => h) (Or.inl ⟨by rfl, ?_⟩) ?_ ?_
          rotate_left
          ·intro w'
           go_simp
           with_reducible rfl
          rotate_left
          ·simp only [Act.put, List.setIfInBounds_toArray, List.set_cons_zero, List.set_cons_succ, i64_w, i32_w]
           rfl
          refine pure_ (i := 3) (N := some 44) (v := ?_) (a' := ?_) #[true, true, true, true, false, false, false, false, false, false, false, false, false, false] rfl rfl (any_of HT_.out (by kernel_rfl)) (fun _ _ _ h => h) (Or.inl ⟨by rfl, ?_⟩) ?_ ?_
          rotate_left
          ·intro w'
           go_simp
           with_reducible rfl
          rotate_left
          ·simp only [Act.put, List.setIfInBounds_toArray, List.set_cons_zero, List.set_cons_succ, i64_w, i32_w]
           rfl
          refine pure_ (i := 4) (N := some 45) (v := ?_) (a' := ?_) #[true, true, true, true, true, false, false, false, false, false, false, false, false, false] rfl rfl (any_of HT_.out (by kernel_rfl)) (fun _ _ _ h => h) (Or.inl ⟨by rfl, ?_⟩) ?_ ?_
          rotate_left
          ·intro w'
           go_simp
           with_reducible rfl
          rotate_left
          ·simp only [Act.put, List.setIfInBounds_toArray, List.set_cons_zero, List.set_cons_succ, i64_w, i32_w]
           rfl
          refine pure_ (i := 6) (N := some 47) (v := ?_) (a' := ?_) #[true, true, true, true, true, false, true, false, false, false, false, false, false, false] rfl rfl (any_of HT_.out (by kernel_rfl)) (fun _ _ _ h => h) (Or.inl ⟨by rfl, ?_⟩) ?_ ?_
          rotate_left
          ·intro w'
           go_simp
           with_reducible rfl
          rotate_left
          ·simp only [Act.put, List.setIfInBounds_toArray, List.set_cons_zero, List.set_cons_succ, i64_w, i32_w]
           rfl
          refine pure_ (i := 8) (N := some 49) (v := ?_) (a' := ?_) #[true, true, true, true, true, false, true, false, true, false, false, false, false, false] rfl rfl (any_of HT_.out (by kernel_rfl)) (fun _ _ _ h => h) (Or.inl ⟨by rfl, ?_⟩) ?_ ?_
          rotate_left
          ·intro w'
           go_simp
           with_reducible rfl
          rotate_left
          ·simp only [Act.put, List.setIfInBounds_toArray, List.set_cons_zero, List.set_cons_succ, i64_w, i32_w]
           rfl
          refine take_ (i := 5) (N := some 46) (v := ?_) (a' := ?_) #[true, true, true, true, true, true, true, false, true, false, false, false, false, false] rfl rfl (take_ofW HT_.out HW_.out (by kernel_rfl)) (fun _ _ _ h => h) (Or.inl ⟨by rfl, ?_⟩) hHeld ?_ ?_
          rotate_left
          ·rintro w' ⟨s0, s1, s2, s3, s4, s5, s6, s7, s8, s9, s10, s11, s12, s13, s14, s15, s16, s17, s18, s19, s20, s21, s22, s23, s24, s25, s26⟩
           go_simp
           with_reducible rfl
          rotate_left
          ·simp only [Act.put, List.setIfInBounds_toArray, List.set_cons_zero, List.set_cons_succ, i64_w, i32_w]
           rfl
          refine take_ (i := 7) (N := some 48) (v := ?_) (a' := ?_) #[true, true, true, true, true, true, true, true, true, false, false, false, false, false] rfl rfl (take_ofW HT_.out HW_.out (by kernel_rfl)) (fun _ _ _ h => h) (Or.inl ⟨by rfl, ?_⟩) hHeld ?_ ?_
          rotate_left
          ·rintro w' ⟨s0, s1, s2, s3, s4, s5, s6, s7, s8, s9, s10, s11, s12, s13, s14, s15, s16, s17, s18, s19, s20, s21, s22, s23, s24, s25, s26⟩
           go_simp
           with_reducible rfl
          rotate_left
          ·simp only [Act.put, List.setIfInBounds_toArray, List.set_cons_zero, List.set_cons_succ, i64_w, i32_w]
           rfl
          refine pure_ (i := 9) (N := some 50) (v := ?_) (a' := ?_) #[true, true, true, true, true, true, true, true, true, true, false, false, false, false] rfl rfl (any_of HT_.out (by kernel_rfl)) (fun _ _ _ h => h) (Or.inl ⟨by rfl, ?_⟩) ?_ ?_
          rotate_left
          ·intro w'
           go_simp
           with_reducible rfl
          rotate_left
          ·simp only [Act.put, List.setIfInBounds_toArray, List.set_cons_zero, List.set_cons_succ, i64_w, i32_w]
           rfl
          refine pure_ (i := 10) (N := some 51) (v := ?_) (a' := ?_) #[true, true, true, true, true, true, true, true, true, true, true, false, false, false] rfl rfl (any_of HT_.out (by kernel_rfl)) (fun _ _ _ h => h) (Or.inl ⟨by rfl, ?_⟩) ?_ ?_
          rotate_left
          ·intro w'
           go_simp
           with_reducible rfl
          rotate_left
          ·simp only [Act.put, List.setIfInBounds_toArray, List.set_cons_zero, List.set_cons_succ, i64_w, i32_w]
           rfl
          refine take_ (i := 11) (N := some 52) (v := ?_) (a' := ?_) #[true, true, true, true, true, true, true, true, true, true, true, true, false, false] rfl rfl (take_ofW HT_.out HW_.out (by kernel_rfl)) (fun _ _ _ h => h) (Or.inl ⟨by rfl, ?_⟩) hHeld ?_ ?_
          rotate_left
          ·rintro w' ⟨s0, s1, s2, s3, s4, s5, s6, s7, s8, s9, s10, s11, s12, s13, s14, s15, s16, s17, s18, s19, s20, s21, s22, s23, s24, s25, s26⟩
           go_simp
           with_reducible rfl
          rotate_left
          ·simp only [Act.put, List.setIfInBounds_toArray, List.set_cons_zero, List.set_cons_succ, i64_w, i32_w]
           rfl
          refine pure_ (i := 12) (N := some 53) (v := ?_) (a' := ?_) #[true, true, true, true, true, true, true, true, true, true, true, true, true, false] rfl rfl (any_of HT_.out (by kernel_rfl)) (fun _ _ _ h => h) (Or.inl ⟨by rfl, ?_⟩) ?_ ?_
          rotate_left
          ·intro w'
           go_simp
           with_reducible rfl
          rotate_left
          ·simp only [Act.put, List.setIfInBounds_toArray, List.set_cons_zero, List.set_cons_succ, i64_w, i32_w]
           rfl
          refine pure_ (i := 13) (N := some 54) (v := ?_) (a' := ?_) #[true, true, true, true, true, true, true, true, true, true, true, true, true, true] rfl rfl (any_of HT_.out (by kernel_rfl)) (fun _ _ _ h => h) (Or.inl ⟨by rfl, ?_⟩) ?_ ?_
          rotate_left
          ·intro w'
           go_simp
           with_reducible rfl
          rotate_left
          ·simp only [Act.put, List.setIfInBounds_toArray, List.set_cons_zero, List.set_cons_succ, i64_w, i32_w]
           rfl
          refine done_ (done_of HT_.out (by kernel_rfl)) ?_
          try go_wp2_with (first | ((with_reducible refine gate_dst (N := 56) rfl ?_); refine Kd.R_lit k42 _ 42 ?hg (N := 56) ?hd (xs := ([] : List (S42))) (inner := []) (ok := fun _ => True) (okp := fun _ => True) ?hr ?hp (fun _ hk => hk) trivial (Below.refl _ _) (Nat.le_refl _) (by simp) ?_; (case hd => rfl); (case hg => rfl); (case hr => first | (go_simp; done) | (go_simp; rfl)); (case hp => exact (Reps.none _ _)); intro v387 w130 ho131 hb hg_ hnew_; clear hg_ hnew_; (first | rw [← Ny386.out] at ho131 | (simp only [Int.reduceToNat] at ho131; rw [← Ny386.out] at ho131)); have n0_ := Aside0.mk (Kd.R_lower (Kd.R_newB ho131 (g := gb362) (o := .cells #[.int .i64 a1_0, .int .u8 a1_1, .int .u8 a1_2, .int .u8 a1_3, .int .u32 a1_4, .int .u64 a1_5, .int .i64 a1_6, .int .i64 a1_7, .int .i64 a1_8, .int .u64 a1_9, .int .u64 a1_10, .int .u64 a1_11] 42 (0, 0)) (stp BK362)) (below_size (by repeat (first | (with_reducible first | exact HB.out | apply below_alloc | apply pw_below_drewN | apply below_drew1 | refine below_set ?_ GE361.out | refine below_set ?_ GE362.out | refine below_set ?_ GE363.out | refine below_set ?_ GE366.out) | exact HB.out)))); have n1_ := Aside0.mk (blk_below (stp BK361) hb); have n2_ := Aside0.mk (blk_below (stp BK362) hb); have n3_ := Aside0.mk (blk_below (stp BK363) hb); have n4_ := Aside0.mk (blk_below (stp BK366) hb); have n5_ := Aside0.mk (below_step (by repeat (first | (with_reducible first | exact HB.out | apply below_alloc | apply pw_below_drewN | apply below_drew1 | refine below_set ?_ GE361.out | refine below_set ?_ GE362.out | refine below_set ?_ GE363.out | refine below_set ?_ GE366.out) | exact HB.out)) hb); clear BK361; clear BK362; clear BK363; clear BK366; clear HB; have HO388 := n0_; have BK361 := n1_; have BK362 := n2_; have BK363 := n3_; have BK366 := n4_; have HB := n5_; clear n0_ n1_ n2_ n3_ n4_ n5_; clear hb ho131; have hcz132_0 : w130.cell? ⟨gb361, 0, none⟩ = some (.int .i64 a0_0) := (blk_cell BK361.out 0).trans rfl; have hcz132_1 : w130.cell? ⟨gb361, 1, none⟩ = some (.int .i64 a0_1) := (blk_cell BK361.out 1).trans rfl; have hcz132_2 : w130.cell? ⟨gb361, 2, none⟩ = some (.slice (some ad385) l0_2.length c0_2) := (blk_cell BK361.out 2).trans rfl; have hfz132_0 := blk_frozen BK361.out 0; have hfz132_1 := blk_frozen BK361.out 1; have hfz132_2 := blk_frozen BK361.out 2) | ((with_reducible refine gate_builtin (b := .append) (xs := #[.tmp 56, .tmp 58]) rfl ?_); at_builtin; refine Kd.R_append_rows k42 (w0 := w) w.heap.size rfl (.tmp 56) (.tmp 58) 22 42 (.agg #[(.int .i64 0), (.int .u8 0), (.int .u8 0), (.int .u8 0), (.int .u32 0), (.int .u64 0), (.int .i64 0), (.int .i64 0), (.int .i64 0), (.int .u64 0), (.int .u64 0), (.int .u64 0)]) 72 rfl Try.underlying22 info42 rfl (by decide) (by omega) v387 y386 l0_2 _ _ _ (fun k_ => k_ ≠ gb362) (fun _ => False) rfl rfl ?aO ?aR (fun _ _ h => h) (fun _ h => h.elim) ?aF ?aB ?aS ?aL ?_; (case aR => repeat (first | exact (Kd.C_below HR0_2.out HB.out) | (with_reducible refine Kd.C_alloc ?_ _) | (with_reducible refine Kd.C_drewN ?_ _) | (with_reducible refine Kd.C_drew ?_))); (case aB => exact (by repeat (first | (with_reducible first | exact HB.out | apply below_alloc | apply pw_below_drewN | apply below_drew1 | refine below_set ?_ GE361.out | refine below_set ?_ GE362.out | refine below_set ?_ GE363.out | refine below_set ?_ GE366.out) | exact HB.out))); (case aF => exact (fun k_ hk => Kd.freshB (g := gb362) (o := .cells #[.int .i64 a1_0, .int .u8 a1_1, .int .u8 a1_2, .int .u8 a1_3, .int .u32 a1_4, .int .u64 a1_5, .int .i64 a1_6, .int .i64 a1_7, .int .i64 a1_8, .int .u64 a1_9, .int .u64 a1_10, .int .u64 a1_11] 42 (0, 0)) (stp BK362) k_ hk)); (case aO => exact (by (with_reducible repeat (first | apply Kd.R_alloc | apply Kd.R_drewN | apply Kd.R_drew)); exact Kd.R_mono HO388.out (fun _ hk => hk.2))); (case aS => exact (below_size (by repeat (first | (with_reducible first | exact HB.out | apply below_alloc | apply pw_below_drewN | apply below_drew1 | refine below_set ?_ GE361.out | refine below_set ?_ GE362.out | refine below_set ?_ GE363.out | refine below_set ?_ GE366.out) | exact HB.out)))); (case aL => have := LMc106.out; omega); intro v390 w133 ho hb hg hat; rw [← Ny389.out] at ho; have n0_ := Aside0.mk (blk_grown (g := gb361) (o := .cells #[.int .i64 a0_0, .int .i64 a0_1, .slice (some ad385) l0_2.length c0_2] 24 (0, 0)) (stp BK361) hg (Kd.R_ne HO388.out BK361.out (by decide))); have n1_ := Aside0.mk (blk_grown (g := gb362) (o := .cells #[.int .i64 a1_0, .int .u8 a1_1, .int .u8 a1_2, .int .u8 a1_3, .int .u32 a1_4, .int .u64 a1_5, .int .i64 a1_6, .int .i64 a1_7, .int .i64 a1_8, .int .u64 a1_9, .int .u64 a1_10, .int .u64 a1_11] 42 (0, 0)) (stp BK362) hg (Kd.R_away HO388.out (fun _ hk => hk.2))); have n2_ := Aside0.mk (blk_grown (g := gb363) (o := .cells #[.int .i64 0, .int .i64 0, .slice none 0 0] 24 (0, 0)) (stp BK363) hg (Kd.R_ne HO388.out BK363.out (by decide))); have n3_ := Aside0.mk (blk_grown (g := gb366) (o := .cells #[.int .i64 a0_0, .int .i64 a0_1, .slice none 0 0] 24 (0, 0)) (stp BK366) hg (Kd.R_ne HO388.out BK366.out (by decide))); have n4_ := Aside0.mk (hb); have n5_ := Aside0.mk (ho); clear BK361; clear BK362; clear BK363; clear BK366; clear HB; clear HO388; have BK361 := n0_; have BK362 := n1_; have BK363 := n2_; have BK366 := n3_; have HB := n4_; have HO391 := n5_; clear n0_ n1_ n2_ n3_ n4_ n5_; clear ho hb hg hat; obtain ⟨Ao134, co134, eo134⟩ := Kd.R_slice HO391.out; subst eo134; have hcz135_0 : w133.cell? ⟨gb366, 0, none⟩ = some (.int .i64 a0_0) := (blk_cell BK366.out 0).trans rfl; have hcz135_1 : w133.cell? ⟨gb366, 1, none⟩ = some (.int .i64 a0_1) := (blk_cell BK366.out 1).trans rfl; have hcz135_2 : w133.cell? ⟨gb366, 2, none⟩ = some (.slice none 0 0) := (blk_cell BK366.out 2).trans rfl; have hfz135_0 := blk_frozen BK366.out 0; have hfz135_1 := blk_frozen BK366.out 1; have hfz135_2 := blk_frozen BK366.out 2) | ((with_reducible refine gate_store (t := 22) (p := 60) rfl ?_); refine store_event (t := 22) (p := 60) (v := ?vo_w136) (w1 := (w133.setCell ⟨gb366, 2, none⟩ (.slice Ao134 y389.length co134))) ?hg ?ho ?hn ?hr ?_; (case ho => rfl); (case hg => rfl); (case hn => rfl); (case hr => first | (go_simp; done) | (go_simp; rfl)); intro w136 hw; have n0_ : Aside0 (Kd.R k42 42 w136 w.heap.size (fun k_ => k_ ≠ gb362) (.slice Ao134 y389.length co134) y389) := ⟨(by rw [hw]; exact (by (with_reducible repeat (first | apply Kd.R_alloc | apply Kd.R_drewN | apply Kd.R_drew)); exact Kd.R_mono (Kd.R_far (p := ⟨gb366, 2, none⟩) (Kd.R_types HO391.out BK366.out (by decide)) (fun _ hk => hk.2) (.slice Ao134 y389.length co134)) (fun _ hk => hk.1)))⟩; have n1_ : Aside0 (w136.heap[gb361]? = some (.cells #[.int .i64 a0_0, .int .i64 a0_1, .slice (some ad385) l0_2.length c0_2] 24 (0, 0))) := ⟨(by rw [hw]; exact (by refine stq ?_; refine blk_far ?_ NB361_366.out _; refine stq ?_; exact BK361.out))⟩; have n2_ : Aside0 (w136.heap[gb362]? = some (.cells #[.int .i64 a1_0, .int .u8 a1_1, .int .u8 a1_2, .int .u8 a1_3, .int .u32 a1_4, .int .u64 a1_5, .int .i64 a1_6, .int .i64 a1_7, .int .i64 a1_8, .int .u64 a1_9, .int .u64 a1_10, .int .u64 a1_11] 42 (0, 0))) := ⟨(by rw [hw]; exact (by refine stq ?_; refine blk_far ?_ NB362_366.out _; refine stq ?_; exact BK362.out))⟩; have n3_ : Aside0 (w136.heap[gb363]? = some (.cells #[.int .i64 0, .int .i64 0, .slice none 0 0] 24 (0, 0))) := ⟨(by rw [hw]; exact (by refine stq ?_; refine blk_far ?_ NB363_366.out _; refine stq ?_; exact BK363.out))⟩; have n4_ : Aside0 (w136.heap[gb366]? = some (.cells #[.int .i64 a0_0, .int .i64 a0_1, .slice Ao134 y389.length co134] 24 (0, 0))) := ⟨(by rw [hw]; exact (by refine stq ?_; refine blk_put (cs := #[.int .i64 a0_0, .int .i64 a0_1, .slice none 0 0]) ?_ 2 _ rfl; refine stq ?_; exact BK366.out))⟩; have n5_ : Aside0 (Below w.heap.size w w136) := ⟨(by rw [hw]; exact (by repeat (first | (with_reducible first | exact HB.out | apply below_alloc | apply pw_below_drewN | apply below_drew1 | refine below_set ?_ GE361.out | refine below_set ?_ GE362.out | refine below_set ?_ GE363.out | refine below_set ?_ GE366.out) | exact HB.out)))⟩; clear hw; clear HO391; clear BK361; clear BK362; clear BK363; clear BK366; clear HB; have HO391 := n0_; have BK361 := n1_; have BK362 := n2_; have BK363 := n3_; have BK366 := n4_; have HB := n5_; clear n0_ n1_ n2_ n3_ n4_ n5_; have hcz137_0 : w136.cell? ⟨gb366, 0, none⟩ = some (.int .i64 a0_0) := (blk_cell BK366.out 0).trans rfl; have hcz137_1 : w136.cell? ⟨gb366, 1, none⟩ = some (.int .i64 a0_1) := (blk_cell BK366.out 1).trans rfl; have hcz137_2 : w136.cell? ⟨gb366, 2, none⟩ = some (.slice Ao134 y389.length co134) := (blk_cell BK366.out 2).trans rfl; have hfz137_0 := blk_frozen BK366.out 0; have hfz137_1 := blk_frozen BK366.out 1; have hfz137_2 := blk_frozen BK366.out 2; have hcz138_0 : w136.cell? ⟨gb362, 0, none⟩ = some (.int .i64 a1_0) := (blk_cell BK362.out 0).trans rfl; have hcz138_1 : w136.cell? ⟨gb362, 1, none⟩ = some (.int .u8 a1_1) := (blk_cell BK362.out 1).trans rfl; have hcz138_2 : w136.cell? ⟨gb362, 2, none⟩ = some (.int .u8 a1_2) := (blk_cell BK362.out 2).trans rfl; have hcz138_3 : w136.cell? ⟨gb362, 3, none⟩ = some (.int .u8 a1_3) := (blk_cell BK362.out 3).trans rfl; have hcz138_4 : w136.cell? ⟨gb362, 4, none⟩ = some (.int .u32 a1_4) := (blk_cell BK362.out 4).trans rfl; have hcz138_5 : w136.cell? ⟨gb362, 5, none⟩ = some (.int .u64 a1_5) := (blk_cell BK362.out 5).trans rfl; have hcz138_6 : w136.cell? ⟨gb362, 6, none⟩ = some (.int .i64 a1_6) := (blk_cell BK362.out 6).trans rfl; have hcz138_7 : w136.cell? ⟨gb362, 7, none⟩ = some (.int .i64 a1_7) := (blk_cell BK362.out 7).trans rfl; have hcz138_8 : w136.cell? ⟨gb362, 8, none⟩ = some (.int .i64 a1_8) := (blk_cell BK362.out 8).trans rfl; have hcz138_9 : w136.cell? ⟨gb362, 9, none⟩ = some (.int .u64 a1_9) := (blk_cell BK362.out 9).trans rfl; have hcz138_10 : w136.cell? ⟨gb362, 10, none⟩ = some (.int .u64 a1_10) := (blk_cell BK362.out 10).trans rfl; have hcz138_11 : w136.cell? ⟨gb362, 11, none⟩ = some (.int .u64 a1_11) := (blk_cell BK362.out 11).trans rfl; have hfz138_0 := blk_frozen BK362.out 0; have hfz138_1 := blk_frozen BK362.out 1; have hfz138_2 := blk_frozen BK362.out 2; have hfz138_3 := blk_frozen BK362.out 3; have hfz138_4 := blk_frozen BK362.out 4; have hfz138_5 := blk_frozen BK362.out 5; have hfz138_6 := blk_frozen BK362.out 6; have hfz138_7 := blk_frozen BK362.out 7; have hfz138_8 := blk_frozen BK362.out 8; have hfz138_9 := blk_frozen BK362.out 9; have hfz138_10 := blk_frozen BK362.out 10; have hfz138_11 := blk_frozen BK362.out 11; have p108 : 0 ≤ (t365 : Int) := of_decide_eq_true (by first | (with_reducible assumption) | assumption); have q108 : (t365 : Int) < ((y389.length : Int) : Int) := of_decide_eq_true (by first | (with_reducible assumption) | assumption); obtain ⟨go108, co108, eo108, gb108, gl108, cl108, HG108⟩ := Kd.R_form HO391.out (by omega); (first | cases eo108 | (injection eo108 with ea_ en_ ec_; (first | subst ea_ | (injection ea_ with ea_; subst ea_)); subst ec_; clear en_)); have GB108 := Aside0.mk gb108; have GG108 := Aside0.mk HG108; clear gb108 gl108 HG108; obtain ⟨ce108, hcl108, hM108, hcc108, hfr108⟩ := Kd.R_elem HO391.out z42 (t365 : Int) p108 q108; obtain rfl := k42_openM hM108; have hx108_0 : w136.cell? ⟨go108, (t365 : Int).toNat * 12, none⟩ = some (.int .i64 ((rd_T42 y389 t365).f0)) := hcc108 0 _ rfl; have hx108_1 : w136.cell? ⟨go108, (t365 : Int).toNat * 12 + 1, none⟩ = some (.int .u8 ((rd_T42 y389 t365).f1.f0)) := hcc108 1 _ rfl; have hx108_2 : w136.cell? ⟨go108, (t365 : Int).toNat * 12 + 2, none⟩ = some (.int .u8 ((rd_T42 y389 t365).f1.f1)) := hcc108 2 _ rfl; have hx108_3 : w136.cell? ⟨go108, (t365 : Int).toNat * 12 + 3, none⟩ = some (.int .u8 ((rd_T42 y389 t365).f1.f2)) := hcc108 3 _ rfl; have hx108_4 : w136.cell? ⟨go108, (t365 : Int).toNat * 12 + 4, none⟩ = some (.int .u32 ((rd_T42 y389 t365).f1.f3)) := hcc108 4 _ rfl; have hx108_5 : w136.cell? ⟨go108, (t365 : Int).toNat * 12 + 5, none⟩ = some (.int .u64 ((rd_T42 y389 t365).f1.f4)) := hcc108 5 _ rfl; have hx108_6 : w136.cell? ⟨go108, (t365 : Int).toNat * 12 + 6, none⟩ = some (.int .i64 ((rd_T42 y389 t365).f2)) := hcc108 6 _ rfl; have hx108_7 : w136.cell? ⟨go108, (t365 : Int).toNat * 12 + 7, none⟩ = some (.int .i64 ((rd_T42 y389 t365).f3)) := hcc108 7 _ rfl; have hx108_8 : w136.cell? ⟨go108, (t365 : Int).toNat * 12 + 8, none⟩ = some (.int .i64 ((rd_T42 y389 t365).f4)) := hcc108 8 _ rfl; have hx108_9 : w136.cell? ⟨go108, (t365 : Int).toNat * 12 + 9, none⟩ = some (.int .u64 ((rd_T42 y389 t365).f5.f0)) := hcc108 9 _ rfl; have hx108_10 : w136.cell? ⟨go108, (t365 : Int).toNat * 12 + 10, none⟩ = some (.int .u64 ((rd_T42 y389 t365).f5.f1)) := hcc108 10 _ rfl; have hx108_11 : w136.cell? ⟨go108, (t365 : Int).toNat * 12 + 11, none⟩ = some (.int .u64 ((rd_T42 y389 t365).f6)) := hcc108 11 _ rfl; have hf108_0 : w136.frozen? ⟨go108, (t365 : Int).toNat * 12, none⟩ = false := hfr108 0; have hf108_1 : w136.frozen? ⟨go108, (t365 : Int).toNat * 12 + 1, none⟩ = false := hfr108 1; have hf108_2 : w136.frozen? ⟨go108, (t365 : Int).toNat * 12 + 2, none⟩ = false := hfr108 2; have hf108_3 : w136.frozen? ⟨go108, (t365 : Int).toNat * 12 + 3, none⟩ = false := hfr108 3; have hf108_4 : w136.frozen? ⟨go108, (t365 : Int).toNat * 12 + 4, none⟩ = false := hfr108 4; have hf108_5 : w136.frozen? ⟨go108, (t365 : Int).toNat * 12 + 5, none⟩ = false := hfr108 5; have hf108_6 : w136.frozen? ⟨go108, (t365 : Int).toNat * 12 + 6, none⟩ = false := hfr108 6; have hf108_7 : w136.frozen? ⟨go108, (t365 : Int).toNat * 12 + 7, none⟩ = false := hfr108 7; have hf108_8 : w136.frozen? ⟨go108, (t365 : Int).toNat * 12 + 8, none⟩ = false := hfr108 8; have hf108_9 : w136.frozen? ⟨go108, (t365 : Int).toNat * 12 + 9, none⟩ = false := hfr108 9; have hf108_10 : w136.frozen? ⟨go108, (t365 : Int).toNat * 12 + 10, none⟩ = false := hfr108 10; have hf108_11 : w136.frozen? ⟨go108, (t365 : Int).toNat * 12 + 11, none⟩ = false := hfr108 11; clear hcl108 hcc108 hfr108 hM108; replace p108 := eq_true p108; replace q108 := eq_true q108; have HX139 := Aside0.mk (show Kd.R k42 42 w136 w.heap.size (fun k_ => k_ ≠ gb362) (.slice (some ⟨go108, 0, none⟩) y389.length co134) y389 from (by (with_reducible repeat (first | apply Kd.R_alloc | apply Kd.R_drewN | apply Kd.R_drew)); exact HO391.out)); obtain ⟨ce139, hcl139, hM139, hcc139, hfr139⟩ := Kd.R_elem HX139.out z42 (t365 : Int) (of_decide_eq_true (by first | (with_reducible assumption) | assumption)) (by have h_ : (t365 : Int) < ((y389.length : Int) : Int) := of_decide_eq_true (by first | (with_reducible assumption) | assumption); first | exact h_ | (have e_ := (Kd.R_reads' HO391.out).1; omega) | simpa using h_); obtain rfl := k42_openM hM139; have HP139 := Kd.R_seg HX139.out (t365 : Int) (of_decide_eq_true (by first | (with_reducible assumption) | assumption)) (by have h_ : (t365 : Int) < ((y389.length : Int) : Int) := of_decide_eq_true (by first | (with_reducible assumption) | assumption); first | exact h_ | (have e_ := (Kd.R_reads' HO391.out).1; omega) | simpa using h_) (seg := [.int .i64 a1_0, .int .u8 a1_1, .int .u8 a1_2, .int .u8 a1_3, .int .u32 a1_4, .int .u64 a1_5, .int .i64 a1_6, .int .i64 a1_7, .int .i64 a1_8, .int .u64 a1_9, .int .u64 a1_10, .int .u64 a1_11]) (j := 0) hcl139 hcc139 (show 12 ≤ 12 from by decide) (x' := (⟨a1_0, (⟨a1_1, a1_2, a1_3, a1_4, a1_5⟩ : S29), a1_6, a1_7, a1_8, (⟨a1_9, a1_10⟩ : S40), a1_11⟩ : S42)) (k42_mkM _ _ _ (⟨a1_0, (⟨a1_1, a1_2, a1_3, a1_4, a1_5⟩ : S29), a1_6, a1_7, a1_8, (⟨a1_9, a1_10⟩ : S40), a1_11⟩ : S42) ) (fun _ hk => hk); have hx139_0 := hcc139 0 _ rfl; (try simp only [show (k42).sz = 12 from rfl, Nat.mul_one, Nat.add_zero] at hx139_0); have hf139_0 := hfr139 0; (try simp only [show (k42).sz = 12 from rfl, Nat.mul_one, Nat.add_zero] at hf139_0); have hx139_1 := hcc139 1 _ rfl; (try simp only [show (k42).sz = 12 from rfl, Nat.mul_one, Nat.add_zero] at hx139_1); have hf139_1 := hfr139 1; (try simp only [show (k42).sz = 12 from rfl, Nat.mul_one, Nat.add_zero] at hf139_1); have hx139_2 := hcc139 2 _ rfl; (try simp only [show (k42).sz = 12 from rfl, Nat.mul_one, Nat.add_zero] at hx139_2); have hf139_2 := hfr139 2; (try simp only [show (k42).sz = 12 from rfl, Nat.mul_one, Nat.add_zero] at hf139_2); have hx139_3 := hcc139 3 _ rfl; (try simp only [show (k42).sz = 12 from rfl, Nat.mul_one, Nat.add_zero] at hx139_3); have hf139_3 := hfr139 3; (try simp only [show (k42).sz = 12 from rfl, Nat.mul_one, Nat.add_zero] at hf139_3); have hx139_4 := hcc139 4 _ rfl; (try simp only [show (k42).sz = 12 from rfl, Nat.mul_one, Nat.add_zero] at hx139_4); have hf139_4 := hfr139 4; (try simp only [show (k42).sz = 12 from rfl, Nat.mul_one, Nat.add_zero] at hf139_4); have hx139_5 := hcc139 5 _ rfl; (try simp only [show (k42).sz = 12 from rfl, Nat.mul_one, Nat.add_zero] at hx139_5); have hf139_5 := hfr139 5; (try simp only [show (k42).sz = 12 from rfl, Nat.mul_one, Nat.add_zero] at hf139_5); have hx139_6 := hcc139 6 _ rfl; (try simp only [show (k42).sz = 12 from rfl, Nat.mul_one, Nat.add_zero] at hx139_6); have hf139_6 := hfr139 6; (try simp only [show (k42).sz = 12 from rfl, Nat.mul_one, Nat.add_zero] at hf139_6); have hx139_7 := hcc139 7 _ rfl; (try simp only [show (k42).sz = 12 from rfl, Nat.mul_one, Nat.add_zero] at hx139_7); have hf139_7 := hfr139 7; (try simp only [show (k42).sz = 12 from rfl, Nat.mul_one, Nat.add_zero] at hf139_7); have hx139_8 := hcc139 8 _ rfl; (try simp only [show (k42).sz = 12 from rfl, Nat.mul_one, Nat.add_zero] at hx139_8); have hf139_8 := hfr139 8; (try simp only [show (k42).sz = 12 from rfl, Nat.mul_one, Nat.add_zero] at hf139_8); have hx139_9 := hcc139 9 _ rfl; (try simp only [show (k42).sz = 12 from rfl, Nat.mul_one, Nat.add_zero] at hx139_9); have hf139_9 := hfr139 9; (try simp only [show (k42).sz = 12 from rfl, Nat.mul_one, Nat.add_zero] at hf139_9); have hx139_10 := hcc139 10 _ rfl; (try simp only [show (k42).sz = 12 from rfl, Nat.mul_one, Nat.add_zero] at hx139_10); have hf139_10 := hfr139 10; (try simp only [show (k42).sz = 12 from rfl, Nat.mul_one, Nat.add_zero] at hf139_10); have hx139_11 := hcc139 11 _ rfl; (try simp only [show (k42).sz = 12 from rfl, Nat.mul_one, Nat.add_zero] at hx139_11); have hf139_11 := hfr139 11; (try simp only [show (k42).sz = 12 from rfl, Nat.mul_one, Nat.add_zero] at hf139_11); clear hcl139 hcc139 hfr139 hM139) | ((with_reducible refine gate_store (t := 42) (p := 65) rfl ?_); refine store_event (t := 42) (p := 65) (v := ?vo_w140) (w1 := ((((((((((((w136.setCell ⟨go108, (t365 : Int).toNat * 12, none⟩ (.int .i64 a1_0)).setCell ⟨go108, (t365 : Int).toNat * 12 + 1, none⟩ (.int .u8 a1_1)).setCell ⟨go108, (t365 : Int).toNat * 12 + 2, none⟩ (.int .u8 a1_2)).setCell ⟨go108, (t365 : Int).toNat * 12 + 3, none⟩ (.int .u8 a1_3)).setCell ⟨go108, (t365 : Int).toNat * 12 + 4, none⟩ (.int .u32 a1_4)).setCell ⟨go108, (t365 : Int).toNat * 12 + 5, none⟩ (.int .u64 a1_5)).setCell ⟨go108, (t365 : Int).toNat * 12 + 6, none⟩ (.int .i64 a1_6)).setCell ⟨go108, (t365 : Int).toNat * 12 + 7, none⟩ (.int .i64 a1_7)).setCell ⟨go108, (t365 : Int).toNat * 12 + 8, none⟩ (.int .i64 a1_8)).setCell ⟨go108, (t365 : Int).toNat * 12 + 9, none⟩ (.int .u64 a1_9)).setCell ⟨go108, (t365 : Int).toNat * 12 + 10, none⟩ (.int .u64 a1_10)).setCell ⟨go108, (t365 : Int).toNat * 12 + 11, none⟩ (.int .u64 a1_11))) ?hg ?ho ?hn ?hr ?_; (case ho => rfl); (case hg => rfl); (case hn => rfl); (case hr => first | (go_simp; done) | (go_simp; rfl)); intro w140 hw; have hg : w136.grownBy w140 (some go108) := (by rw [hw]; exact HP139.2); have hp_ : Kd.R k42 42 w140 w.heap.size (fun k_ => k_ ≠ gb362) (.slice (some ⟨go108, 0, none⟩) y389.length co134) y392 := (by rw [hw, Ny392.out]; exact HP139.1); clear HP139; have n0_ := Aside0.mk (blk_grown (g := gb361) (o := .cells #[.int .i64 a0_0, .int .i64 a0_1, .slice (some ad385) l0_2.length c0_2] 24 (0, 0)) (stp BK361) hg (Kd.R_ne HO391.out BK361.out (by decide))); have n1_ := Aside0.mk (blk_grown (g := gb362) (o := .cells #[.int .i64 a1_0, .int .u8 a1_1, .int .u8 a1_2, .int .u8 a1_3, .int .u32 a1_4, .int .u64 a1_5, .int .i64 a1_6, .int .i64 a1_7, .int .i64 a1_8, .int .u64 a1_9, .int .u64 a1_10, .int .u64 a1_11] 42 (0, 0)) (stp BK362) hg (Kd.R_away HO391.out (fun _ hk => hk))); have n2_ := Aside0.mk (blk_grown (g := gb363) (o := .cells #[.int .i64 0, .int .i64 0, .slice none 0 0] 24 (0, 0)) (stp BK363) hg (Kd.R_ne HO391.out BK363.out (by decide))); have n3_ := Aside0.mk (blk_grown (g := gb366) (o := .cells #[.int .i64 a0_0, .int .i64 a0_1, .slice (some ⟨go108, 0, none⟩) y389.length co134] 24 (0, 0)) (stp BK366) hg (Kd.R_ne HO391.out BK366.out (by decide))); have n4_ := Aside0.mk (hp_); have n5_ := Aside0.mk ((by rw [hw]; exact below_set (below_set (below_set (below_set (below_set (below_set (below_set (below_set (below_set (below_set (below_set (below_set (HB.out) GB108.out) GB108.out) GB108.out) GB108.out) GB108.out) GB108.out) GB108.out) GB108.out) GB108.out) GB108.out) GB108.out) GB108.out : Below w.heap.size w w140)); clear BK361; clear BK362; clear BK363; clear BK366; clear HO391; clear HB; have BK361 := n0_; have BK362 := n1_; have BK363 := n2_; have BK366 := n3_; have HO391 := n4_; have HB := n5_; clear n0_ n1_ n2_ n3_ n4_ n5_; clear hg hw hp_; have hcz141_0 : w140.cell? ⟨gb366, 0, none⟩ = some (.int .i64 a0_0) := (blk_cell BK366.out 0).trans rfl; have hcz141_1 : w140.cell? ⟨gb366, 1, none⟩ = some (.int .i64 a0_1) := (blk_cell BK366.out 1).trans rfl; have hcz141_2 : w140.cell? ⟨gb366, 2, none⟩ = some (.slice (some ⟨go108, 0, none⟩) y389.length co134) := (blk_cell BK366.out 2).trans rfl; have hfz141_0 := blk_frozen BK366.out 0; have hfz141_1 := blk_frozen BK366.out 1; have hfz141_2 := blk_frozen BK366.out 2; have hcz142_0 : w140.cell? ⟨gb363, 0, none⟩ = some (.int .i64 0) := (blk_cell BK363.out 0).trans rfl; have hcz142_1 : w140.cell? ⟨gb363, 1, none⟩ = some (.int .i64 0) := (blk_cell BK363.out 1).trans rfl; have hcz142_2 : w140.cell? ⟨gb363, 2, none⟩ = some (.slice none 0 0) := (blk_cell BK363.out 2).trans rfl; have hfz142_0 := blk_frozen BK363.out 0; have hfz142_1 := blk_frozen BK363.out 1; have hfz142_2 := blk_frozen BK363.out 2))
          refine bodyPost_ret (results_ct rfl _ _ gb363 24 #[.int .i64 a0_0, .int .i64 a0_1, .slice (some ⟨go108, 0, none⟩) y389.length co134] (0, 0) _ rfl (by refine stq ?_; refine blk_put (cs := #[.int .i64 a0_0, .int .i64 a0_1, .slice none 0 0]) ?_ 2 _ rfl; refine stq ?_; refine blk_put (cs := #[.int .i64 a0_0, .int .i64 0, .slice none 0 0]) ?_ 1 _ rfl; refine stq ?_; refine blk_put (cs := #[.int .i64 0, .int .i64 0, .slice none 0 0]) ?_ 0 _ rfl; refine stq ?_; exact BK363.out) Try.underlying24 rfl (by kernel_rfl)) rfl ?_
          exact ⟨_, by first | rfl | (simp [errW_none, errW_some] <;> rfl) | (simp [*, errW_none, errW_some] <;> rfl), by (with_reducible repeat (first | apply Kd.R_alloc | apply Kd.R_drewN | apply Kd.R_drew)); exact Kd.R_mono (Kd.R_far (p := ⟨gb363, 2, none⟩) (Kd.R_far (p := ⟨gb363, 1, none⟩) (Kd.R_far (p := ⟨gb363, 0, none⟩) (Kd.R_types HO391.out BK363.out (by decide)) (fun _ hk => hk.2) (.int .i64 a0_0)) (fun _ hk => hk.2) (.int .i64 a0_1)) (fun _ hk => hk.2) (.slice (some ⟨go108, 0, none⟩) y389.length co134)) (fun _ hk => trivial), by repeat (first | (with_reducible first | exact HB.out | apply below_alloc | apply pw_below_drewN | apply below_drew1 | refine below_set ?_ GE361.out | refine below_set ?_ GE362.out | refine below_set ?_ GE363.out | refine below_set ?_ GE366.out) | exact HB.out)⟩
         ·rw [if_neg c107] at H
          exact absurd H (by simp)
        ·rw [if_neg c106] at H
         exact absurd H (by simp)
      ·rw [if_neg c82] at H
       exact absurd H (by simp)
     ·rw [if_neg c81] at H
      exact absurd H (by simp)
 ·rw [if_neg c4] at H
  have c4b0 : (t364 == 0) = false := beq_eq_false_iff_ne.mpr c4
  have c4b1 : (t364 != 0) = true := bne_iff_ne.mpr c4
  simp only [Option.some.injEq, Prod.mk.injEq] at H
  obtain ⟨rfl, rfl, rfl, rfl⟩ := H
  go_enter Try.func17, Try.ntmps17
  go_wp2_with (first | ((with_reducible refine gate_dst (N := 2) rfl ?_); refine box_event ?hg (N := 2) ?hd (cs := #[.int .i64 a0_0, .int .i64 a0_1, .slice A0_2 l0_2.length c0_2]) (t := 24) ?hr ?_; (case hd => rfl); (case hg => rfl); (case hr => first | (go_simp; done) | (go_simp; rfl)); intro gb361 hg w143 hbox hb; have ⟨n0_, n2_⟩ := pkB (stb HB) hb hg; have n3_ := n2_; have n1_ := Aside0.mk (hbox); clear HB; have HB := n0_; have BK361 := n1_; have GW361 := n2_; have GE361 := n3_; clear n0_ n1_ n2_ n3_; clear hb hbox hg) | ((with_reducible refine gate_dst (N := 3) rfl ?_); refine box_event ?hg (N := 3) ?hd (cs := #[.int .i64 a1_0, .int .u8 a1_1, .int .u8 a1_2, .int .u8 a1_3, .int .u32 a1_4, .int .u64 a1_5, .int .i64 a1_6, .int .i64 a1_7, .int .i64 a1_8, .int .u64 a1_9, .int .u64 a1_10, .int .u64 a1_11]) (t := 42) ?hr ?_; (case hd => rfl); (case hg => rfl); (case hr => first | (go_simp; done) | (go_simp; rfl)); intro gb362 hg w144 hbox hb; have ⟨n0_, n5_, n6_⟩ := pkK (stp BK361) hb hg; have ⟨n1_, n3_⟩ := pkB (w := w) (by repeat (first | (with_reducible first | exact HB.out | apply below_alloc | apply pw_below_drewN | apply below_drew1 | refine below_set ?_ GE361.out) | exact HB.out)) hb hg; have n4_ := n3_; have n2_ := Aside0.mk (hbox); clear BK361; clear HB; have BK361 := n0_; have HB := n1_; have BK362 := n2_; have GW362 := n3_; have GE362 := n4_; have NB361_362 := n5_; have NB362_361 := n6_; clear n0_ n1_ n2_ n3_ n4_ n5_ n6_; clear hb hbox hg) | ((with_reducible refine gate_dst (N := 4) rfl ?_); refine box_event ?hg (N := 4) ?hd (cs := #[.int .i64 0, .int .i64 0, .slice none 0 0]) (t := 24) ?hr ?_; (case hd => rfl); (case hg => rfl); (case hr => first | (go_simp; done) | (go_simp; rfl)); intro gb363 hg w145 hbox hb; have ⟨n0_, n6_, n7_⟩ := pkK (stp BK361) hb hg; have ⟨n1_, n8_, n9_⟩ := pkK (stp BK362) hb hg; have ⟨n2_, n4_⟩ := pkB (w := w) (by repeat (first | (with_reducible first | exact HB.out | apply below_alloc | apply pw_below_drewN | apply below_drew1 | refine below_set ?_ GE361.out | refine below_set ?_ GE362.out) | exact HB.out)) hb hg; have n5_ := n4_; have n3_ := Aside0.mk (hbox); clear BK361; clear BK362; clear HB; have BK361 := n0_; have BK362 := n1_; have HB := n2_; have BK363 := n3_; have GW363 := n4_; have GE363 := n5_; have NB361_363 := n6_; have NB363_361 := n7_; have NB362_363 := n8_; have NB363_362 := n9_; clear n0_ n1_ n2_ n3_ n4_ n5_ n6_ n7_ n8_ n9_; clear hb hbox hg; have hnb146 := NB361_362.out; have hnc146 := NB362_361.out; have hnb147 := NB361_363.out; have hnc147 := NB363_361.out; have hcz148_0 : w145.cell? ⟨gb361, 0, none⟩ = some (.int .i64 a0_0) := (blk_cell BK361.out 0).trans rfl; have hcz148_1 : w145.cell? ⟨gb361, 1, none⟩ = some (.int .i64 a0_1) := (blk_cell BK361.out 1).trans rfl; have hcz148_2 : w145.cell? ⟨gb361, 2, none⟩ = some (.slice A0_2 l0_2.length c0_2) := (blk_cell BK361.out 2).trans rfl; have hfz148_0 := blk_frozen BK361.out 0; have hfz148_1 := blk_frozen BK361.out 1; have hfz148_2 := blk_frozen BK361.out 2) | ((with_reducible refine gate_callee (f := 21) rfl ?_); refine goesL_ (some 9) rfl rfl Try.func21 (by kernel_rfl) rfl #[.agg #[.int .i64 a0_0, .int .i64 a0_1, .slice A0_2 l0_2.length c0_2]] rfl (by (try simp only [List.map_toArray, List.map_cons, List.map_nil]); first | done | rfl | (simp only [List.length_drop, List.length_take]; rfl)) ?_; (with_reducible refine (rampartref18_Check.calls k a0_0 a0_1 _ _ l0_2 t364 _ ?side1 ?side2 A3.out).mono ?_); (case side1 => repeat (first | exact (Kd.C_below HR0_2.out HB.out) | (with_reducible refine Kd.C_alloc ?_ _) | (with_reducible refine Kd.C_drewN ?_ _) | (with_reducible refine Kd.C_drew ?_))); (case side2 => exact HC0_2.out); rintro e w149 ⟨rfl, hb⟩; refine ⟨_, rfl, ?_⟩; have n0_ := Aside0.mk (blk_below (stp BK361) hb); have n1_ := Aside0.mk (blk_below (stp BK362) hb); have n2_ := Aside0.mk (blk_below (stp BK363) hb); have n3_ := Aside0.mk (below_step (by repeat (first | (with_reducible first | exact HB.out | apply below_alloc | apply pw_below_drewN | apply below_drew1 | refine below_set ?_ GE361.out | refine below_set ?_ GE362.out | refine below_set ?_ GE363.out) | exact HB.out)) hb); clear BK361; clear BK362; clear BK363; clear HB; have BK361 := n0_; have BK362 := n1_; have BK363 := n2_; have HB := n3_; clear n0_ n1_ n2_ n3_; (try clear hb); (try clear hb2); (try clear hk); (try clear hi); have hnb150 := NB363_362.out; have hnc150 := NB362_363.out; have hcz151_0 : w149.cell? ⟨gb363, 0, none⟩ = some (.int .i64 0) := (blk_cell BK363.out 0).trans rfl; have hcz151_1 : w149.cell? ⟨gb363, 1, none⟩ = some (.int .i64 0) := (blk_cell BK363.out 1).trans rfl; have hcz151_2 : w149.cell? ⟨gb363, 2, none⟩ = some (.slice none 0 0) := (blk_cell BK363.out 2).trans rfl; have hfz151_0 := blk_frozen BK363.out 0; have hfz151_1 := blk_frozen BK363.out 1; have hfz151_2 := blk_frozen BK363.out 2))
  refine bodyPost_ret (results_ct rfl _ _ gb363 24 #[.int .i64 0, .int .i64 0, .slice none 0 0] (0, 0) _ rfl (by refine stq ?_; refine blk_put (cs := #[.int .i64 0, .int .i64 0, .slice none 0 0]) ?_ 2 _ rfl; refine stq ?_; refine blk_put (cs := #[.int .i64 0, .int .i64 0, .slice none 0 0]) ?_ 1 _ rfl; refine stq ?_; refine blk_put (cs := #[.int .i64 0, .int .i64 0, .slice none 0 0]) ?_ 0 _ rfl; refine stq ?_; exact BK363.out) Try.underlying24 rfl (by kernel_rfl)) rfl ?_
  exact ⟨_, by first | rfl | (simp [errW_none, errW_some] <;> rfl) | (simp [*, errW_none, errW_some] <;> rfl), by first | exact Kd.R_nil _ _ _ _ _ | exact Kd.N_nil _ _ _ _ _ | exact Kd.V_nil _ _ _ _ _ | exact Kd.Q_nil _ _ _ _ _ | exact Kd.S_nil _ _ _ _ _, by repeat (first | (with_reducible first | exact HB.out | apply below_alloc | apply pw_below_drewN | apply below_drew1 | refine below_set ?_ GE361.out | refine below_set ?_ GE362.out | refine below_set ?_ GE363.out) | exact HB.out)⟩

end Go.Proofs.Ytkkgnmfahhkajaa.Q
