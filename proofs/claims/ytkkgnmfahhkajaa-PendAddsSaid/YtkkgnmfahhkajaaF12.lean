/- Layer 18: the law of what comes of any request. -/
import Derived.Test.YtkkgnmfahhkajaaF9
import Derived.Test.YtkkgnmfahhkajaaF10
namespace Go.Proofs.Ytkkgnmfahhkajaa.Q
open Go.RowKit Go.Proofs.YtkkgnmfahhkajaaW.PrintWords Go.Proofs.YtkkgnmfahhkajaaW.PrintMore
set_option linter.unusedVariables false
set_option linter.unusedSimpArgs false
theorem addV_len (a b : Int) (l : List S42) (r : S29) : (addV a b l r).2.2.1.length ≤ l.length + 1 := by
  unfold addV
  repeat' split
  all_goals simp
theorem alloc2 (w : World) (o1 o2 : Obj) : ((w.alloc o1).alloc o2).heap[w.heap.size]? = some o1 ∧ ((w.alloc o1).alloc o2).heap[w.heap.size + 1]? = some o2 := ⟨blk_alloc (heap_alloc_new w o1) _, new1 w o1 o2⟩
theorem blk5 {W : World} {b t : Nat} {u0 u1 u2 u3 u4 : Value} (h : W.heap[b]? = some (.cells #[u0, u1, u2, u3, u4] t (0, 0))) : W.cell? ⟨b, 0, none⟩ = some u0 ∧ W.cell? ⟨b, 1, none⟩ = some u1 ∧ W.cell? ⟨b, 2, none⟩ = some u2 ∧ W.cell? ⟨b, 3, none⟩ = some u3 ∧ W.cell? ⟨b, 4, none⟩ = some u4 := by
  unfold World.cell?
  rw [show W.heap[b]? = _ from h]
  exact ⟨rfl, rfl, rfl, rfl, rfl⟩
set_option maxHeartbeats 1000000 in
set_option maxRecDepth 100000 in
theorem adds3 (w : World) (a b : Int) (A : Option Addr) (c : Nat) (l : List S42) (r : S29) (hc : l.length ≤ c) (hr : Kd.C k42 w A l.length l) : Calls Try.prog 3 #[.agg #[.int .i64 a, .int .i64 b, .slice A l.length c], .agg #[.int .u8 r.f0, .int .u8 r.f1, .int .u8 r.f2, .int .u32 r.f3, .int .u64 r.f4]] w fun e w' => e = .returned (.bool true) ∧ Below w.heap.size w w' := by
  obtain ⟨HP0, HR0⟩ := alloc2 w (.cells #[.int .i64 a, .int .i64 b, .slice A l.length c] 24) (.cells #[.int .u8 r.f0, .int .u8 r.f1, .int .u8 r.f2, .int .u32 r.f3, .int .u64 r.f4] 29)
  have AB : Below w.heap.size w ((w.alloc (.cells #[.int .i64 a, .int .i64 b, .slice A l.length c] 24)).alloc (.cells #[.int .u8 r.f0, .int .u8 r.f1, .int .u8 r.f2, .int .u32 r.f3, .int .u64 r.f4] 29)) := vbelow_alloc (vbelow_alloc (Below.refl _ _) _) _
  obtain ⟨fl, hfl⟩ : ∃ fl, fl = l.take 8 := ⟨_, rfl⟩
  have hfn : fl.length ≤ 8 := by rw [hfl, List.length_take]; omega
  have hfc : fl.length ≤ c := by rw [hfl, List.length_take]; omega
  have hfC : Kd.C k42 w A fl.length fl := by rw [hfl]; exact few_C hr
  have HFL := Lib.hid hfl
  clear hfl
  obtain ⟨x, y, L, n, e, hV⟩ : ∃ x y L n e, addV a b fl r = (x, y, L, n, e) := ⟨_, _, _, _, _, rfl⟩
  have hLn : L.length ≤ 15 := by have h_ := addV_len a b fl r; rw [hV] at h_; have h2_ : L.length ≤ fl.length + 1 := h_; omega
  obtain ⟨fv, hfv⟩ : ∃ fv, (if chkV a b fl = 0 then (fl.length : Int) == a else false) = fv := ⟨_, rfl⟩
  have HV := Lib.hid hV
  have HFV := Lib.hid hfv
  clear hV hfv
  go_enter Try.func3, Try.ntmps3
  go_wp2_with fail
  refine (few7 _ a b A c l hc).mono ?_
  rintro e' w1 ⟨rfl, hb1⟩
  rw [← HFL.out]
  have HB1 : Below w.heap.size w w1 := vbelow_step AB hb1
  have HP1 := (hb1.block _ (heap_lt HP0)).trans HP0
  have HR1 := (hb1.block _ (heap_lt HR0)).trans HR0
  obtain ⟨p0, p1, p2, pF⟩ := blk3 HP1
  have pf0 := pF 0
  have pf1 := pF 1
  have pf2 := pF 2
  clear pF
  obtain ⟨r0, r1, r2, r3, r4⟩ := blk5 HR1
  have pr : w.heap.size ≠ w.heap.size + 1 := by omega
  go_wp2_with fail
  have HP2 := put3 HP1 (.int .i64 a) (.int .i64 b) (.slice A fl.length c)
  have HR2 : (((w1.setCell ⟨w.heap.size, 0, none⟩ (.int .i64 a)).setCell ⟨w.heap.size, 1, none⟩ (.int .i64 b)).setCell ⟨w.heap.size, 2, none⟩ (.slice A fl.length c)).heap[w.heap.size + 1]? = _ := blk_far (p := ⟨w.heap.size, 2, none⟩) (blk_far (p := ⟨w.heap.size, 1, none⟩) (blk_far (p := ⟨w.heap.size, 0, none⟩) (HR1) (Nat.ne_of_gt (Nat.lt_succ_self _)) _) (Nat.ne_of_gt (Nat.lt_succ_self _)) _) (Nat.ne_of_gt (Nat.lt_succ_self _)) _
  have HB2 : Below w.heap.size w (((w1.setCell ⟨w.heap.size, 0, none⟩ (.int .i64 a)).setCell ⟨w.heap.size, 1, none⟩ (.int .i64 b)).setCell ⟨w.heap.size, 2, none⟩ (.slice A fl.length c)) := vbelow_set (vbelow_set (vbelow_set HB1 (Nat.le_refl _)) (Nat.le_refl _)) (Nat.le_refl _)
  generalize hW2 : (((w1.setCell ⟨w.heap.size, 0, none⟩ (.int .i64 a)).setCell ⟨w.heap.size, 1, none⟩ (.int .i64 b)).setCell ⟨w.heap.size, 2, none⟩ (.slice A fl.length c)) = w2 at HP2 HR2 HB2 ⊢
  clear hW2 HP1 HR1 p0 p1 p2 pf0 pf1 pf2 r0 r1 r2 r3 r4 HP0 HR0 AB HB1
  refine (add8 _ a b A c fl r (Kd.C_below hfC HB2) hfc (by omega) x y n e L HV.out).mono ?_
  rintro e' w3 ⟨A3, c3, rfl, hc3, hC3, hF3, hb3⟩
  have HB3 := vbelow_step HB2 hb3
  have HP3 := (hb3.block _ (heap_lt HP2)).trans HP2
  have HR3 := (hb3.block _ (heap_lt HR2)).trans HR2
  obtain ⟨p0, p1, p2, pF⟩ := blk3 HP3
  clear pF
  obtain ⟨r0, r1, r2, r3, r4⟩ := blk5 HR3
  have lp := heap_lt HP3
  have lr := heap_lt HR3
  go_wp2_with fail
  have HA3 := heap_alloc_new w3 (.cells #[.int .i64 x, .int .i64 y, .slice A3 L.length c3] 24)
  have HB3' : Below w.heap.size w (w3.alloc (.cells #[.int .i64 x, .int .i64 y, .slice A3 L.length c3] 24)) := vbelow_alloc HB3 _
  refine (radd9 _ a b A c fl r (Kd.C_below hfC HB3') hfc (by omega) x y n e L HV.out).mono ?_
  rintro e' w4 ⟨A4, c4, rfl, hc4, hC4, hF4, hb4⟩
  have HB4 := vbelow_step HB3' hb4
  have HP4 := (hb4.block _ (heap_lt (blk_alloc HP3 _))).trans (blk_alloc HP3 _)
  have HA4 := (hb4.block _ (heap_lt HA3)).trans HA3
  have hC3' := Kd.C_below (Kd.C_alloc hC3 (.cells #[.int .i64 x, .int .i64 y, .slice A3 L.length c3] 24)) hb4
  clear p0 p1 p2 r0 r1 r2 r3 r4
  go_upto_region 4 with fail
  have HBq : Below w.heap.size w (w4.alloc (.cells #[.int .i64 x, .int .i64 y, .slice A4 L.length c4] 24)) := vbelow_alloc HB4 _
  have HPq := blk_alloc HP4 (.cells #[.int .i64 x, .int .i64 y, .slice A4 L.length c4] 24)
  have HAq := blk_alloc HA4 (.cells #[.int .i64 x, .int .i64 y, .slice A4 L.length c4] 24)
  have HQq := heap_alloc_new w4 (.cells #[.int .i64 x, .int .i64 y, .slice A4 L.length c4] 24)
  have hC3q := Kd.C_alloc hC3' (.cells #[.int .i64 x, .int .i64 y, .slice A4 L.length c4] 24)
  have hC4q := Kd.C_alloc hC4 (.cells #[.int .i64 x, .int .i64 y, .slice A4 L.length c4] 24)
  have hCpq := Kd.C_below hfC HBq
  generalize hWq : w4.alloc (.cells #[.int .i64 x, .int .i64 y, .slice A4 L.length c4] 24) = wq at HBq HPq HAq HQq hC3q hC4q hCpq ⊢
  clear hWq HP2 HP3 HP4 HR2 HR3 HA3 HA4 hC3 hC3' hC4 hb3 hb4 HB2 HB3 HB3' HB4 lp lr hF3 hF4
  obtain ⟨p0, p1, p2, pF⟩ := blk3 HPq
  clear pF
  obtain ⟨g0, g1, g2, gF⟩ := blk3 HAq
  clear gF
  obtain ⟨h0, h1, h2, hF⟩ := blk3 HQq
  clear hF
  have qp0 := gw_cell p0
  have qp1 := gw_cell p1
  have qp2 := gw_cell p2
  have qg0 := gw_cell g0
  have qg1 := gw_cell g1
  have qg2 := gw_cell g2
  have qh0 := gw_cell h0
  have qh1 := gw_cell h1
  have qh2 := gw_cell h2
  clear p0 p1 p2 g0 g1 g2 h0 h1 h2
  have hsv := sameV_self x y L
  have hfv := HFV.out
  have hfn10 : fl.length ≤ 10 := by omega
  refine wp_region_quietB (by kernel_rfl) (by kernel_rfl) ?_
  repeat (first | go_big_quiet_step ((first | (go_at_call 10; exact quietB_of (rsame10 _ x y A3 c3 L x y A4 c4 L (Kd.C_below hC3q (GW.property _)) hc3 (Kd.C_below hC4q (GW.property _)) hc4 hLn true hsv)) | (go_at_call 11; exact quietB_of (full11 _ a b A c fl (Kd.C_below hCpq (GW.property _)) hfc hfn10 fv hfv)) | (go_at_call 12; exact quietB_of (rfull12 _ a b A c fl (Kd.C_below hCpq (GW.property _)) hfc hfn10 fv hfv)) | (go_at_call 13; exact quietB_of (awake13 _)))) | quiet_step ((first | (go_at_call 10; exact quietB_of (rsame10 _ x y A3 c3 L x y A4 c4 L (Kd.C_below hC3q (GW.property _)) hc3 (Kd.C_below hC4q (GW.property _)) hc4 hLn true hsv)) | (go_at_call 11; exact quietB_of (full11 _ a b A c fl (Kd.C_below hCpq (GW.property _)) hfc hfn10 fv hfv)) | (go_at_call 12; exact quietB_of (rfull12 _ a b A c fl (Kd.C_below hCpq (GW.property _)) hfc hfn10 fv hfv)) | (go_at_call 13; exact quietB_of (awake13 _)))))
  refine wpQuiet_nil ?_
  rintro w9 ⟨⟨wq_, hb9⟩, hwq_⟩
  obtain rfl : w9 = wq_ := hwq_
  go_wp2
  go_ret
  exact ⟨rfl, vbelow_step HBq hb9⟩
end Go.Proofs.Ytkkgnmfahhkajaa.Q
