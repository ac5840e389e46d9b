/- Layer 18: the law of one that goes on. -/
import Derived.Test.YtkkgnmfahhkajaaF12
import Derived.Test.YtkkgnmfahhkajaaQx2
namespace Go.Proofs.Ytkkgnmfahhkajaa.Q
open Go.RowKit Go.Proofs.YtkkgnmfahhkajaaW.PrintWords Go.Proofs.YtkkgnmfahhkajaaW.PrintMore
set_option linter.unusedVariables false
set_option linter.unusedSimpArgs false
attribute [local go_sem high] eqA42
set_option maxHeartbeats 1000000 in
set_option maxRecDepth 100000 in
theorem sets4 (w : World) (a b : Int) (A : Option Addr) (c : Nat) (l : List S42) (m : Int) (o : S42) (hc : l.length ≤ c) (hr : Kd.C k42 w A l.length l) : Calls Try.prog 4 #[.agg #[.int .i64 a, .int .i64 b, .slice A l.length c], .int .i64 m, .agg #[.int .i64 o.f0, .int .u8 o.f1.f0, .int .u8 o.f1.f1, .int .u8 o.f1.f2, .int .u32 o.f1.f3, .int .u64 o.f1.f4, .int .i64 o.f2, .int .i64 o.f3, .int .i64 o.f4, .int .u64 o.f5.f0, .int .u64 o.f5.f1, .int .u64 o.f6]] w fun e w' => e = .returned (.bool true) ∧ Below w.heap.size w w' := by
  obtain ⟨HP0, HR0⟩ := alloc2 w (.cells #[.int .i64 a, .int .i64 b, .slice A l.length c] 24) (.cells #[.int .i64 o.f0, .int .u8 o.f1.f0, .int .u8 o.f1.f1, .int .u8 o.f1.f2, .int .u32 o.f1.f3, .int .u64 o.f1.f4, .int .i64 o.f2, .int .i64 o.f3, .int .i64 o.f4, .int .u64 o.f5.f0, .int .u64 o.f5.f1, .int .u64 o.f6] 42)
  have AB : Below w.heap.size w (((w.alloc (.cells #[.int .i64 a, .int .i64 b, .slice A l.length c] 24)).alloc (.cells #[.int .i64 o.f0, .int .u8 o.f1.f0, .int .u8 o.f1.f1, .int .u8 o.f1.f2, .int .u32 o.f1.f3, .int .u64 o.f1.f4, .int .i64 o.f2, .int .i64 o.f3, .int .i64 o.f4, .int .u64 o.f5.f0, .int .u64 o.f5.f1, .int .u64 o.f6] 42))) := vbelow_alloc (vbelow_alloc (Below.refl _ _) _) _
  obtain ⟨fl, hfl⟩ : ∃ fl, fl = l.take 8 := ⟨_, rfl⟩
  have hfn : fl.length ≤ 8 := by rw [hfl, List.length_take]; omega
  have hfc : fl.length ≤ c := by rw [hfl, List.length_take]; omega
  have hfC : Kd.C k42 w A fl.length fl := by rw [hfl]; exact few_C hr
  have hfn10 : fl.length ≤ 10 := by omega
  have HFL := Lib.hid hfl
  clear hfl
  obtain ⟨x, y, e, L, hV⟩ : ∃ x y e L, setV a b fl o = (x, y, L, e) := ⟨_, _, _, _, rfl⟩
  have hLn : L.length ≤ 15 := by have h_ := setV_len a b fl o; rw [hV] at h_; have h2_ : L.length ≤ fl.length := h_; omega
  obtain ⟨u, v, hG⟩ : ∃ u v, getV a b fl m = (u, v) := ⟨_, _, rfl⟩
  obtain ⟨fv, hfv⟩ : ∃ fv, workV a b fl = fv := ⟨_, rfl⟩
  have HV := Lib.hid hV
  have HFV := Lib.hid hfv
  have HG := Lib.hid hG
  clear hV hfv hG
  go_enter Try.func4, Try.ntmps4
  go_wp2_with fail
  refine (few7 _ a b A c l hc).mono ?_
  rintro e' w1 ⟨rfl, hb1⟩
  rw [← HFL.out]
  have HB1 : Below w.heap.size w w1 := vbelow_step AB hb1
  have HP1 := (hb1.block _ (heap_lt HP0)).trans HP0
  have HR1 := (hb1.block _ (heap_lt HR0)).trans HR0
  obtain ⟨p0, p1, p2, pF⟩ := blk3 HP1
  have pf0 := pF 0
  have pf1 := pF 1
  have pf2 := pF 2
  clear pF
  go_wp2_with fail
  have HP2 := put3 HP1 (.int .i64 a) (.int .i64 b) (.slice A fl.length c)
  have HR2 : (((w1.setCell ⟨w.heap.size, 0, none⟩ (.int .i64 a)).setCell ⟨w.heap.size, 1, none⟩ (.int .i64 b)).setCell ⟨w.heap.size, 2, none⟩ (.slice A fl.length c)).heap[w.heap.size + 1]? = _ := blk_far (p := ⟨w.heap.size, 2, none⟩) (blk_far (p := ⟨w.heap.size, 1, none⟩) (blk_far (p := ⟨w.heap.size, 0, none⟩) (HR1) (Nat.ne_of_gt (Nat.lt_succ_self _)) _) (Nat.ne_of_gt (Nat.lt_succ_self _)) _) (Nat.ne_of_gt (Nat.lt_succ_self _)) _
  have HB2 : Below w.heap.size w (((w1.setCell ⟨w.heap.size, 0, none⟩ (.int .i64 a)).setCell ⟨w.heap.size, 1, none⟩ (.int .i64 b)).setCell ⟨w.heap.size, 2, none⟩ (.slice A fl.length c)) := vbelow_set (vbelow_set (vbelow_set HB1 (Nat.le_refl _)) (Nat.le_refl _)) (Nat.le_refl _)
  generalize hW2 : (((w1.setCell ⟨w.heap.size, 0, none⟩ (.int .i64 a)).setCell ⟨w.heap.size, 1, none⟩ (.int .i64 b)).setCell ⟨w.heap.size, 2, none⟩ (.slice A fl.length c)) = w2 at HP2 HR2 HB2 ⊢
  clear hW2 HP1 HR1 p0 p1 p2 pf0 pf1 pf2 HP0 HR0 AB HB1
  refine (get14 _ a b A c fl m (Kd.C_below hfC HB2) hfc hfn10 u v HG.out).mono ?_
  rintro e' w3 ⟨rfl, hb3⟩
  have HB3 := vbelow_step HB2 hb3
  have HP3 := (hb3.block _ (heap_lt HP2)).trans HP2
  have HR3 := (hb3.block _ (heap_lt HR2)).trans HR2
  obtain ⟨p0, p1, p2, pF⟩ := blk3 HP3
  clear pF
  have lp := heap_lt HP3
  have lr := heap_lt HR3
  go_wp2_with fail
  clear p0 p1 p2
  have HU3 := heap_alloc_new w3 (.cells #[.int .i64 u.f0, .int .u8 u.f1.f0, .int .u8 u.f1.f1, .int .u8 u.f1.f2, .int .u32 u.f1.f3, .int .u64 u.f1.f4, .int .i64 u.f2, .int .i64 u.f3, .int .i64 u.f4, .int .u64 u.f5.f0, .int .u64 u.f5.f1, .int .u64 u.f6] 42)
  have HB3' : Below w.heap.size w (w3.alloc (.cells #[.int .i64 u.f0, .int .u8 u.f1.f0, .int .u8 u.f1.f1, .int .u8 u.f1.f2, .int .u32 u.f1.f3, .int .u64 u.f1.f4, .int .i64 u.f2, .int .i64 u.f3, .int .i64 u.f4, .int .u64 u.f5.f0, .int .u64 u.f5.f1, .int .u64 u.f6] 42)) := vbelow_alloc HB3 _
  have HP3' := blk_alloc HP3 (.cells #[.int .i64 u.f0, .int .u8 u.f1.f0, .int .u8 u.f1.f1, .int .u8 u.f1.f2, .int .u32 u.f1.f3, .int .u64 u.f1.f4, .int .i64 u.f2, .int .i64 u.f3, .int .i64 u.f4, .int .u64 u.f5.f0, .int .u64 u.f5.f1, .int .u64 u.f6] 42)
  have HR3' := blk_alloc HR3 (.cells #[.int .i64 u.f0, .int .u8 u.f1.f0, .int .u8 u.f1.f1, .int .u8 u.f1.f2, .int .u32 u.f1.f3, .int .u64 u.f1.f4, .int .i64 u.f2, .int .i64 u.f3, .int .i64 u.f4, .int .u64 u.f5.f0, .int .u64 u.f5.f1, .int .u64 u.f6] 42)
  refine (rget15 _ a b A c fl m (Kd.C_below hfC HB3') hfc hfn10 u v HG.out).mono ?_
  rintro e' w4 ⟨rfl, hb4⟩
  have HB4 := vbelow_step HB3' hb4
  have HP4 := (hb4.block _ (heap_lt HP3')).trans HP3'
  have HR4 := (hb4.block _ (heap_lt HR3')).trans HR3'
  have HU4 := (hb4.block _ (heap_lt HU3)).trans HU3
  obtain ⟨p0, p1, p2, pF⟩ := blk3 HP4
  clear pF
  obtain ⟨r0, r1, r2, r3, r4, r5, r6, r7, r8, r9, r10, r11, rF⟩ := blk12 HR4
  clear rF
  have lp4 := heap_lt HP4
  have lr4 := heap_lt HR4
  go_wp2_with fail
  clear p0 p1 p2
  clear r0 r1 r2 r3 r4 r5 r6 r7 r8 r9 r10 r11
  have HT4 := heap_alloc_new w4 (.cells #[.int .i64 u.f0, .int .u8 u.f1.f0, .int .u8 u.f1.f1, .int .u8 u.f1.f2, .int .u32 u.f1.f3, .int .u64 u.f1.f4, .int .i64 u.f2, .int .i64 u.f3, .int .i64 u.f4, .int .u64 u.f5.f0, .int .u64 u.f5.f1, .int .u64 u.f6] 42)
  have HB4' : Below w.heap.size w (w4.alloc (.cells #[.int .i64 u.f0, .int .u8 u.f1.f0, .int .u8 u.f1.f1, .int .u8 u.f1.f2, .int .u32 u.f1.f3, .int .u64 u.f1.f4, .int .i64 u.f2, .int .i64 u.f3, .int .i64 u.f4, .int .u64 u.f5.f0, .int .u64 u.f5.f1, .int .u64 u.f6] 42)) := vbelow_alloc HB4 _
  have HP4' := blk_alloc HP4 (.cells #[.int .i64 u.f0, .int .u8 u.f1.f0, .int .u8 u.f1.f1, .int .u8 u.f1.f2, .int .u32 u.f1.f3, .int .u64 u.f1.f4, .int .i64 u.f2, .int .i64 u.f3, .int .i64 u.f4, .int .u64 u.f5.f0, .int .u64 u.f5.f1, .int .u64 u.f6] 42)
  have HR4' := blk_alloc HR4 (.cells #[.int .i64 u.f0, .int .u8 u.f1.f0, .int .u8 u.f1.f1, .int .u8 u.f1.f2, .int .u32 u.f1.f3, .int .u64 u.f1.f4, .int .i64 u.f2, .int .i64 u.f3, .int .i64 u.f4, .int .u64 u.f5.f0, .int .u64 u.f5.f1, .int .u64 u.f6] 42)
  have HU4' := blk_alloc HU4 (.cells #[.int .i64 u.f0, .int .u8 u.f1.f0, .int .u8 u.f1.f1, .int .u8 u.f1.f2, .int .u32 u.f1.f3, .int .u64 u.f1.f4, .int .i64 u.f2, .int .i64 u.f3, .int .i64 u.f4, .int .u64 u.f5.f0, .int .u64 u.f5.f1, .int .u64 u.f6] 42)
  refine (set16 _ a b A c fl o (Kd.C_below hfC HB4') hfc hfn10 x y e L HV.out).mono ?_
  rintro e' w5 ⟨A5, c5, rfl, hc5, hC5, hF5, hb5⟩
  have HB5 := vbelow_step HB4' hb5
  have HP5 := (hb5.block _ (heap_lt HP4')).trans HP4'
  have HR5 := (hb5.block _ (heap_lt HR4')).trans HR4'
  have HU5 := (hb5.block _ (heap_lt HU4')).trans HU4'
  have HT5 := (hb5.block _ (heap_lt HT4)).trans HT4
  obtain ⟨p0, p1, p2, pF⟩ := blk3 HP5
  clear pF
  obtain ⟨r0, r1, r2, r3, r4, r5, r6, r7, r8, r9, r10, r11, rF⟩ := blk12 HR5
  clear rF
  have lp5 := heap_lt HP5
  have lr5 := heap_lt HR5
  go_wp2_with fail
  clear p0 p1 p2
  clear r0 r1 r2 r3 r4 r5 r6 r7 r8 r9 r10 r11
  have HV5 := heap_alloc_new w5 (.cells #[.int .i64 x, .int .i64 y, .slice A5 L.length c5] 24)
  have HB5' : Below w.heap.size w (w5.alloc (.cells #[.int .i64 x, .int .i64 y, .slice A5 L.length c5] 24)) := vbelow_alloc HB5 _
  have HP5' := blk_alloc HP5 (.cells #[.int .i64 x, .int .i64 y, .slice A5 L.length c5] 24)
  have HU5' := blk_alloc HU5 (.cells #[.int .i64 x, .int .i64 y, .slice A5 L.length c5] 24)
  have HT5' := blk_alloc HT5 (.cells #[.int .i64 x, .int .i64 y, .slice A5 L.length c5] 24)
  have hC5' := Kd.C_alloc hC5 (.cells #[.int .i64 x, .int .i64 y, .slice A5 L.length c5] 24)
  refine (rset17 _ a b A c fl o (Kd.C_below hfC HB5') hfc hfn10 x y e L HV.out).mono ?_
  rintro e' w6 ⟨A6, c6, rfl, hc6, hC6, hF6, hb6⟩
  have HB6 := vbelow_step HB5' hb6
  have HP6 := (hb6.block _ (heap_lt HP5')).trans HP5'
  have HU6 := (hb6.block _ (heap_lt HU5')).trans HU5'
  have HT6 := (hb6.block _ (heap_lt HT5')).trans HT5'
  have HV6 := (hb6.block _ (heap_lt HV5)).trans HV5
  have hC5q := Kd.C_below hC5' hb6
  go_upto_region 6 with fail
  have HBq : Below w.heap.size w (w6.alloc (.cells #[.int .i64 x, .int .i64 y, .slice A6 L.length c6] 24)) := vbelow_alloc HB6 _
  have HPq := blk_alloc HP6 (.cells #[.int .i64 x, .int .i64 y, .slice A6 L.length c6] 24)
  have HUq := blk_alloc HU6 (.cells #[.int .i64 x, .int .i64 y, .slice A6 L.length c6] 24)
  have HTq := blk_alloc HT6 (.cells #[.int .i64 x, .int .i64 y, .slice A6 L.length c6] 24)
  have HVq := blk_alloc HV6 (.cells #[.int .i64 x, .int .i64 y, .slice A6 L.length c6] 24)
  have HWq := heap_alloc_new w6 (.cells #[.int .i64 x, .int .i64 y, .slice A6 L.length c6] 24)
  have hC5r := Kd.C_alloc hC5q (.cells #[.int .i64 x, .int .i64 y, .slice A6 L.length c6] 24)
  have hC6r := Kd.C_alloc hC6 (.cells #[.int .i64 x, .int .i64 y, .slice A6 L.length c6] 24)
  have hCpq := Kd.C_below hfC HBq
  generalize hWq : w6.alloc (.cells #[.int .i64 x, .int .i64 y, .slice A6 L.length c6] 24) = wq at HBq HPq HUq HTq HVq HWq hC5r hC6r hCpq ⊢
  clear hWq HP2 HR2 HP3 HR3 HU3 HP3' HR3' HP4 HR4 HU4 HT4 HP4' HR4' HU4' HP5 HR5 HU5 HT5 HV5 HP5' HU5' HT5' HP6 HU6 HT6 HV6 hC5 hC5' hC5q hC6 hb3 hb4 hb5 hb6 HB2 HB3 HB3' HB4 HB4' HB5 HB5' HB6 lp lr lp4 lr4 lp5 lr5 hF5 hF6
  obtain ⟨p0, p1, p2, pF⟩ := blk3 HPq
  clear pF
  obtain ⟨g0, g1, g2, gF⟩ := blk3 HVq
  clear gF
  obtain ⟨h0, h1, h2, hF⟩ := blk3 HWq
  clear hF
  obtain ⟨i0, i1, i2, i3, i4, i5, i6, i7, i8, i9, i10, i11, iF⟩ := blk12 HUq
  clear iF
  obtain ⟨j0, j1, j2, j3, j4, j5, j6, j7, j8, j9, j10, j11, jF⟩ := blk12 HTq
  clear jF
  have qp0 := gw_cell p0
  have qp1 := gw_cell p1
  have qp2 := gw_cell p2
  have qg0 := gw_cell g0
  have qg1 := gw_cell g1
  have qg2 := gw_cell g2
  have qh0 := gw_cell h0
  have qh1 := gw_cell h1
  have qh2 := gw_cell h2
  have qi0 := gw_cell i0
  have qi1 := gw_cell i1
  have qi2 := gw_cell i2
  have qi3 := gw_cell i3
  have qi4 := gw_cell i4
  have qi5 := gw_cell i5
  have qi6 := gw_cell i6
  have qi7 := gw_cell i7
  have qi8 := gw_cell i8
  have qi9 := gw_cell i9
  have qi10 := gw_cell i10
  have qi11 := gw_cell i11
  have qj0 := gw_cell j0
  have qj1 := gw_cell j1
  have qj2 := gw_cell j2
  have qj3 := gw_cell j3
  have qj4 := gw_cell j4
  have qj5 := gw_cell j5
  have qj6 := gw_cell j6
  have qj7 := gw_cell j7
  have qj8 := gw_cell j8
  have qj9 := gw_cell j9
  have qj10 := gw_cell j10
  have qj11 := gw_cell j11
  clear p0 p1 p2
  clear g0 g1 g2
  clear h0 h1 h2
  clear i0 i1 i2 i3 i4 i5 i6 i7 i8 i9 i10 i11
  clear j0 j1 j2 j3 j4 j5 j6 j7 j8 j9 j10 j11
  have hsv := sameV_self x y L
  have hfv := HFV.out
  refine wp_region_quietB (by kernel_rfl) (by kernel_rfl) ?_
  repeat (first | go_big_quiet_step ((first | (go_at_call 10; exact quietB_of (rsame10 _ x y A5 c5 L x y A6 c6 L (Kd.C_below hC5r (GW.property _)) hc5 (Kd.C_below hC6r (GW.property _)) hc6 hLn true hsv)) | (go_at_call 18; exact quietB_of (work18 _ a b A c fl (Kd.C_below hCpq (GW.property _)) hfc hfn10 fv hfv)) | (go_at_call 19; exact quietB_of (rwork19 _ a b A c fl (Kd.C_below hCpq (GW.property _)) hfc hfn10 fv hfv)) | (go_at_call 13; exact quietB_of (awake13 _)))) | quiet_step ((first | (go_at_call 10; exact quietB_of (rsame10 _ x y A5 c5 L x y A6 c6 L (Kd.C_below hC5r (GW.property _)) hc5 (Kd.C_below hC6r (GW.property _)) hc6 hLn true hsv)) | (go_at_call 18; exact quietB_of (work18 _ a b A c fl (Kd.C_below hCpq (GW.property _)) hfc hfn10 fv hfv)) | (go_at_call 19; exact quietB_of (rwork19 _ a b A c fl (Kd.C_below hCpq (GW.property _)) hfc hfn10 fv hfv)) | (go_at_call 13; exact quietB_of (awake13 _)))))
  refine wpQuiet_nil ?_
  rintro w9 ⟨⟨wq_, hb9⟩, hwq_⟩
  obtain rfl : w9 = wq_ := hwq_
  go_wp2
  go_ret
  exact ⟨rfl, vbelow_step HBq hb9⟩
end Go.Proofs.Ytkkgnmfahhkajaa.Q
