/- Layer 18: the law of which pending operations may be. -/
import Derived.Test.YtkkgnmfahhkajaaF12
namespace Go.Proofs.Ytkkgnmfahhkajaa.Q
open Go.RowKit Go.Proofs.YtkkgnmfahhkajaaW.PrintWords Go.Proofs.YtkkgnmfahhkajaaW.PrintMore
set_option linter.unusedVariables false
set_option linter.unusedSimpArgs false
set_option maxHeartbeats 8000000 in
set_option maxRecDepth 100000 in
theorem forms6 (w : World) (n : Int) (a1 b1 : Int) (A1 : Option Addr) (c1 : Nat) (l1 : List S42) (a2 b2 : Int) (A2 : Option Addr) (c2 : Nat) (l2 : List S42) (hc1 : l1.length ≤ c1) (hC1 : Kd.C k42 w A1 l1.length l1) (hc2 : l2.length ≤ c2) (hC2 : Kd.C k42 w A2 l2.length l2) : Calls Try.prog 6 #[.int .i64 n, .agg #[.int .i64 a1, .int .i64 b1, .slice A1 l1.length c1], .agg #[.int .i64 a2, .int .i64 b2, .slice A2 l2.length c2]] w fun e w' => e = .returned (.bool true) ∧ Below w.heap.size w w' := by
  obtain ⟨HP, HR⟩ := alloc2 w (.cells #[.int .i64 a1, .int .i64 b1, .slice A1 l1.length c1] 24) (.cells #[.int .i64 a2, .int .i64 b2, .slice A2 l2.length c2] 24)
  have HB : Below w.heap.size w ((w.alloc (.cells #[.int .i64 a1, .int .i64 b1, .slice A1 l1.length c1] 24)).alloc (.cells #[.int .i64 a2, .int .i64 b2, .slice A2 l2.length c2] 24)) := vbelow_alloc (vbelow_alloc (Below.refl _ _) _) _
  obtain ⟨f1, hf1⟩ : ∃ f, f = l1.take 8 := ⟨_, rfl⟩
  have hn1 : f1.length ≤ 8 := by rw [hf1, List.length_take]; omega
  have hd1 : f1.length ≤ c1 := by rw [hf1, List.length_take]; omega
  have hD1 : Kd.C k42 w A1 f1.length f1 := by rw [hf1]; exact few_C hC1
  have HF1 := Lib.hid hf1
  clear hf1
  obtain ⟨f2, hf2⟩ : ∃ f, f = l2.take 8 := ⟨_, rfl⟩
  have hn2 : f2.length ≤ 8 := by rw [hf2, List.length_take]; omega
  have hd2 : f2.length ≤ c2 := by rw [hf2, List.length_take]; omega
  have hD2 : Kd.C k42 w A2 f2.length f2 := by rw [hf2]; exact few_C hC2
  have HF2 := Lib.hid hf2
  clear hf2
  obtain ⟨x, y, e, L, hV⟩ : ∃ (x y e : Int) (L : List S42), (if 1 ≤ n ∧ n ≤ 4 then (n, (1 : Int), ([] : List S42), (0 : Int)) else (0, 0, [], 180)) = (x, y, L, e) := ⟨_, _, _, _, rfl⟩
  have hLn : L.length ≤ 15 := by split at hV <;> (simp only [Prod.mk.injEq] at hV; rw [← hV.2.2.1]; exact Nat.zero_le _)
  obtain ⟨cv, hcv⟩ : ∃ cv, chkV a1 b1 f1 = cv := ⟨_, rfl⟩
  obtain ⟨sv, hsv⟩ : ∃ sv, sameV a1 b1 f1 a2 b2 f2 = sv := ⟨_, rfl⟩
  have HV := Lib.hid hV
  have HCV := Lib.hid hcv
  have HSV := Lib.hid hsv
  clear hV hcv hsv
  obtain ⟨p, hp⟩ : ∃ p, p = w.heap.size := ⟨_, rfl⟩
  obtain ⟨q, hq⟩ : ∃ q, q = w.heap.size + 1 := ⟨_, rfl⟩
  have hpq : p ≠ q := by omega
  have hqp : q ≠ p := by omega
  have hwp : w.heap.size ≤ p := by omega
  have hwq : w.heap.size ≤ q := by omega
  go_enter Try.func6, Try.ntmps6
  go_upto_region 1 with fail
  rw [← hp] at HP
  rw [← hq] at HR
  generalize hW0 : ((w.alloc (.cells #[.int .i64 a1, .int .i64 b1, .slice A1 l1.length c1] 24)).alloc (.cells #[.int .i64 a2, .int .i64 b2, .slice A2 l2.length c2] 24)) = wa at HP HR HB ⊢
  try rw [← hq]
  try rw [← hp]
  clear hW0 hp hq
  go_cut [] (fun wx => wx.heap[p]? = some (.cells #[.int .i64 a1, .int .i64 b1, .slice A1 f1.length c1] 24 (0, 0)) ∧ wx.heap[q]? = some (.cells #[.int .i64 a2, .int .i64 b2, .slice A2 f2.length c2] 24 (0, 0)) ∧ Below w.heap.size w wx)
  case first =>
    obtain ⟨p0, p1, p2, pF⟩ := blk3 HP
    have pf0 := pF 0
    have pf1 := pF 1
    have pf2 := pF 2
    clear pF
    obtain ⟨r0, r1, r2, rF⟩ := blk3 HR
    have rf0 := rF 0
    have rf1 := rF 1
    have rf2 := rF 2
    clear rF
    go_region_with (first | (go_at_call 7; with_reducible refine (few7 _ a1 b1 A1 c1 l1 hc1).mono ?_; rintro e_ wk ⟨rfl, hbk⟩; rw [← HF1.out]; have HB := vbelow_step (by first | exact HB | exact vbelow_drew HB) hbk; have HP := (hbk.block _ (heap_lt HP)).trans HP; have HR := (hbk.block _ (heap_lt HR)).trans HR; obtain ⟨p0, p1, p2, pF⟩ := blk3 HP; obtain ⟨r0, r1, r2, rF⟩ := blk3 HR; have pf0 := pF 0; have pf1 := pF 1; have pf2 := pF 2; have rf0 := rF 0; have rf1 := rF 1; have rf2 := rF 2; clear pF rF) | (go_at_call 7; with_reducible refine (few7 _ a2 b2 A2 c2 l2 hc2).mono ?_; rintro e_ wk ⟨rfl, hbk⟩; rw [← HF2.out]; have HB := vbelow_step (by first | exact HB | exact vbelow_drew HB) hbk; have HP := (hbk.block _ (heap_lt HP)).trans HP; have HR := (hbk.block _ (heap_lt HR)).trans HR; obtain ⟨p0, p1, p2, pF⟩ := blk3 HP; obtain ⟨r0, r1, r2, rF⟩ := blk3 HR; have pf0 := pF 0; have pf1 := pF 1; have pf2 := pF 2; have rf0 := rF 0; have rf1 := rF 1; have rf2 := rF 2; clear pF rF))
    all_goals (try go_wp2_with fail)
    all_goals (go_meet; first | exact ⟨(blk_far (p := ⟨q, 2, none⟩) (blk_far (p := ⟨q, 1, none⟩) (blk_far (p := ⟨q, 0, none⟩) (put3 HP (.int .i64 a1) (.int .i64 b1) (.slice A1 f1.length c1)) hpq (.int .i64 a2)) hpq (.int .i64 b2)) hpq (.slice A2 f2.length c2)), (put3 (blk_far (p := ⟨p, 2, none⟩) (blk_far (p := ⟨p, 1, none⟩) (blk_far (p := ⟨p, 0, none⟩) HR hqp (.int .i64 a1)) hqp (.int .i64 b1)) hqp (.slice A1 f1.length c1)) (.int .i64 a2) (.int .i64 b2) (.slice A2 f2.length c2)), vbelow_set (vbelow_set (vbelow_set (vbelow_set (vbelow_set (vbelow_set HB hwp) hwp) hwp) hwq) hwq) hwq⟩ | exact ⟨(put3 (blk_far (p := ⟨q, 2, none⟩) (blk_far (p := ⟨q, 1, none⟩) (blk_far (p := ⟨q, 0, none⟩) HP hpq (.int .i64 a2)) hpq (.int .i64 b2)) hpq (.slice A2 f2.length c2)) (.int .i64 a1) (.int .i64 b1) (.slice A1 f1.length c1)), (blk_far (p := ⟨p, 2, none⟩) (blk_far (p := ⟨p, 1, none⟩) (blk_far (p := ⟨p, 0, none⟩) (put3 HR (.int .i64 a2) (.int .i64 b2) (.slice A2 f2.length c2)) hqp (.int .i64 a1)) hqp (.int .i64 b1)) hqp (.slice A1 f1.length c1)), vbelow_set (vbelow_set (vbelow_set (vbelow_set (vbelow_set (vbelow_set HB hwq) hwq) hwq) hwp) hwp) hwp⟩)
  case rest =>
    clear HP HR HB
    obtain ⟨HP, HR, HB⟩ := hcut
    rename World => w2
    go_wp2_with fail
    refine (new20 _ n x y e L HV.out).mono ?_
    rintro e' w3 ⟨A3, c3, rfl, hc3, hC3, hF3, hb3⟩
    have HB3 := vbelow_step HB hb3
    have HP3 := (hb3.block _ (heap_lt HP)).trans HP
    have HR3 := (hb3.block _ (heap_lt HR)).trans HR
    go_wp2_with fail
    have HA3 := heap_alloc_new w3 (.cells #[.int .i64 x, .int .i64 y, .slice A3 L.length c3] 24)
    have HB3' : Below w.heap.size w (w3.alloc (.cells #[.int .i64 x, .int .i64 y, .slice A3 L.length c3] 24)) := vbelow_alloc HB3 _
    refine (rnew22 _ n x y e L HV.out).mono ?_
    rintro e' w4 ⟨A4, c4, rfl, hc4, hC4, hF4, hb4⟩
    have HB4 := vbelow_step HB3' hb4
    have HP4 := (hb4.block _ (heap_lt (blk_alloc HP3 _))).trans (blk_alloc HP3 _)
    have HR4 := (hb4.block _ (heap_lt (blk_alloc HR3 _))).trans (blk_alloc HR3 _)
    have HA4 := (hb4.block _ (heap_lt HA3)).trans HA3
    have hC3' := Kd.C_below (Kd.C_alloc hC3 (.cells #[.int .i64 x, .int .i64 y, .slice A3 L.length c3] 24)) hb4
    go_upto_region 4 with fail
    have HBq : Below w.heap.size w (w4.alloc (.cells #[.int .i64 x, .int .i64 y, .slice A4 L.length c4] 24)) := vbelow_alloc HB4 _
    have HPq := blk_alloc HP4 (.cells #[.int .i64 x, .int .i64 y, .slice A4 L.length c4] 24)
    have HRq := blk_alloc HR4 (.cells #[.int .i64 x, .int .i64 y, .slice A4 L.length c4] 24)
    have HAq := blk_alloc HA4 (.cells #[.int .i64 x, .int .i64 y, .slice A4 L.length c4] 24)
    have HQq := heap_alloc_new w4 (.cells #[.int .i64 x, .int .i64 y, .slice A4 L.length c4] 24)
    have hC3q := Kd.C_alloc hC3' (.cells #[.int .i64 x, .int .i64 y, .slice A4 L.length c4] 24)
    have hC4q := Kd.C_alloc hC4 (.cells #[.int .i64 x, .int .i64 y, .slice A4 L.length c4] 24)
    have hDp := Kd.C_below hD1 HBq
    have hDr := Kd.C_below hD2 HBq
    generalize hWq : w4.alloc (.cells #[.int .i64 x, .int .i64 y, .slice A4 L.length c4] 24) = wq at HBq HPq HRq HAq HQq hC3q hC4q hDp hDr ⊢
    clear hWq HP HR HP3 HR3 HA3 HP4 HR4 HA4 hC3 hC3' hC4 hb3 hb4 HB HB3 HB3' HB4 hF3 hF4
    obtain ⟨p0, p1, p2, pF⟩ := blk3 HPq
    clear pF
    obtain ⟨r0, r1, r2, rF⟩ := blk3 HRq
    clear rF
    obtain ⟨g0, g1, g2, gF⟩ := blk3 HAq
    clear gF
    obtain ⟨h0, h1, h2, hF⟩ := blk3 HQq
    clear hF
    have qp0 := gw_cell p0
    have qp1 := gw_cell p1
    have qp2 := gw_cell p2
    have qr0 := gw_cell r0
    have qr1 := gw_cell r1
    have qr2 := gw_cell r2
    have qg0 := gw_cell g0
    have qg1 := gw_cell g1
    have qg2 := gw_cell g2
    have qh0 := gw_cell h0
    have qh1 := gw_cell h1
    have qh2 := gw_cell h2
    clear p0 p1 p2
    clear r0 r1 r2
    clear g0 g1 g2
    clear h0 h1 h2
    have hsl := sameV_self x y L
    have hsp := sameV_self a1 b1 f1
    have hn10 : f1.length ≤ 10 := by omega
    have hn15 : f1.length ≤ 15 := by omega
    have K0 := fun u : GW wq => rsame10 u.val x y A3 c3 L x y A4 c4 L (Kd.C_below hC3q u.property) hc3 (Kd.C_below hC4q u.property) hc4 hLn true hsl
    have K1 := fun u : GW wq => rsame10 u.val a1 b1 A1 c1 f1 a2 b2 A2 c2 f2 (Kd.C_below hDp u.property) hd1 (Kd.C_below hDr u.property) hd2 hn15 sv HSV.out
    have K2 := fun u : GW wq => same24 u.val a1 b1 A1 c1 f1 a2 b2 A2 c2 f2 (Kd.C_below hDp u.property) hd1 (Kd.C_below hDr u.property) hd2 hn15 sv HSV.out
    have K3 := fun u : GW wq => same24 u.val a1 b1 A1 c1 f1 a1 b1 A1 c1 f1 (Kd.C_below hDp u.property) hd1 (Kd.C_below hDp u.property) hd1 hn15 true hsp
    refine wp_region_quietB (by kernel_rfl) (by kernel_rfl) ?_
    repeat (first | go_big_quiet_step ((first | (go_at_call 10; with_reducible exact quietB_of (K0 _)) | (go_at_call 10; with_reducible exact quietB_of (K1 _)) | (go_at_call 24; with_reducible exact quietB_of (K2 _)) | (go_at_call 24; with_reducible exact quietB_of (K3 _)) | (go_at_call 23; exact quietB_of (check23 _ a1 b1 A1 c1 f1 (Kd.C_below hDp (GW.property _)) hd1 hn10 cv HCV.out)) | (go_at_call 21; exact quietB_of (rcheck21 _ a1 b1 A1 c1 f1 (Kd.C_below hDp (GW.property _)) hd1 hn10 cv HCV.out)) | (go_at_call 13; exact quietB_of (awake13 _)))) | quiet_step ((first | (go_at_call 10; with_reducible exact quietB_of (K0 _)) | (go_at_call 10; with_reducible exact quietB_of (K1 _)) | (go_at_call 24; with_reducible exact quietB_of (K2 _)) | (go_at_call 24; with_reducible exact quietB_of (K3 _)) | (go_at_call 23; exact quietB_of (check23 _ a1 b1 A1 c1 f1 (Kd.C_below hDp (GW.property _)) hd1 hn10 cv HCV.out)) | (go_at_call 21; exact quietB_of (rcheck21 _ a1 b1 A1 c1 f1 (Kd.C_below hDp (GW.property _)) hd1 hn10 cv HCV.out)) | (go_at_call 13; exact quietB_of (awake13 _)))))
    refine wpQuiet_nil ?_
    rintro w9 ⟨⟨wq_, hb9⟩, hwq_⟩
    obtain rfl : w9 = wq_ := hwq_
    go_wp2
    go_ret
    exact ⟨rfl, vbelow_step HBq hb9⟩
end Go.Proofs.Ytkkgnmfahhkajaa.Q
