/- Layer 18: one goes on. -/
import Derived.Test.YtkkgnmfahhkajaaV
import Derived.Test.YtkkgnmfahhkajaaQx0
import Derived.Test.YtkkgnmfahhkajaaQx1
import Derived.Test.YtkkgnmfahhkajaaQx4
import Derived.Test.YtkkgnmfahhkajaaQx5
import Derived.Test.YtkkgnmfahhkajaaF3
import Derived.Test.YtkkgnmfahhkajaaF4
import Derived.Test.YtkkgnmfahhkajaaF5
import Derived.Test.YtkkgnmfahhkajaaF8a
import Derived.Test.YtkkgnmfahhkajaaF8b
namespace Go.Proofs.Ytkkgnmfahhkajaa.Q
open Go.RowKit Go.Proofs.YtkkgnmfahhkajaaW.PrintWords Go.Proofs.YtkkgnmfahhkajaaW.PrintMore
set_option linter.unusedVariables false
set_option linter.unusedSimpArgs false
attribute [local go_sem high] eqA29
theorem elem_cells {W : World} {base g n : Nat} {l : List S42} {o : S42} (h : k42.R 42 W base (fun _ => True) (.slice (some ⟨g, 0, none⟩) n n) l) (i : Nat) (hi : i < n) : ∃ x : S42, W.cell? ⟨g, i * 12 + 0, none⟩ = some (.int .i64 x.f0) ∧ W.cell? ⟨g, i * 12 + 1, none⟩ = some (.int .u8 x.f1.f0) ∧ W.cell? ⟨g, i * 12 + 2, none⟩ = some (.int .u8 x.f1.f1) ∧ W.cell? ⟨g, i * 12 + 3, none⟩ = some (.int .u8 x.f1.f2) ∧ W.cell? ⟨g, i * 12 + 4, none⟩ = some (.int .u32 x.f1.f3) ∧ W.cell? ⟨g, i * 12 + 5, none⟩ = some (.int .u64 x.f1.f4) ∧ W.cell? ⟨g, i * 12 + 6, none⟩ = some (.int .i64 x.f2) ∧ W.cell? ⟨g, i * 12 + 7, none⟩ = some (.int .i64 x.f3) ∧ W.cell? ⟨g, i * 12 + 8, none⟩ = some (.int .i64 x.f4) ∧ W.cell? ⟨g, i * 12 + 9, none⟩ = some (.int .u64 x.f5.f0) ∧ W.cell? ⟨g, i * 12 + 10, none⟩ = some (.int .u64 x.f5.f1) ∧ W.cell? ⟨g, i * 12 + 11, none⟩ = some (.int .u64 x.f6) ∧ (∀ j, W.frozen? ⟨g, i * 12 + j, none⟩ = false) ∧ k42.R 42 (W.setCells g (i * 12) (cl o)) base (fun _ => True) (.slice (some ⟨g, 0, none⟩) n n) (l.set i o) := by
  obtain ⟨c, hc, hM, hq, hf⟩ := Kd.R_elem h z42 (i : Int) (by omega) (by omega)
  rw [Int.toNat_natCast] at hq hf hM
  have hc2 := k42_openM hM
  refine ⟨_, hq 0 _ (by rw [hc2]; rfl), hq 1 _ (by rw [hc2]; rfl), hq 2 _ (by rw [hc2]; rfl), hq 3 _ (by rw [hc2]; rfl), hq 4 _ (by rw [hc2]; rfl), hq 5 _ (by rw [hc2]; rfl), hq 6 _ (by rw [hc2]; rfl), hq 7 _ (by rw [hc2]; rfl), hq 8 _ (by rw [hc2]; rfl), hq 9 _ (by rw [hc2]; rfl), hq 10 _ (by rw [hc2]; rfl), hq 11 _ (by rw [hc2]; rfl), hf, ?_⟩
  have hs := (Kd.R_seg h (i : Int) (by omega) (by omega) (seg := cl o) (j := 0) (x' := o) (okp := fun k => True ∧ k ≠ g) hc (by rw [Int.toNat_natCast]; exact hq) (by rw [cl_len]; exact Nat.le_refl _) (by rw [List.take_zero, List.nil_append, cl_len, List.drop_of_length_le (by rw [hc]; exact Nat.le_refl _), List.append_nil]; exact k42_mkM _ _ _ o) (fun k hk => hk)).1
  rw [Int.toNat_natCast] at hs
  exact hs
set_option maxHeartbeats 1000000 in
set_option maxRecDepth 100000 in
theorem set_e (w : World) (k9 : Nat) (a b : Int) (A : Option Addr) (c : Nat) (l : List S42) (o : S42) (hr : Kd.C k42 w A l.length l) (hc : l.length ≤ c) (hk : pend_Check.f k9 a b l = some 0) (i : Nat) (hi : i < l.length) (hp : pend_place.f a b l o.f0 = some (i : Int)) (hn : l.length ≤ 1000) (hov : ¬ o.f2 = 7) (t : Int) (hlf : step_Left.f k9 o.f0 o.f1.f0 o.f1.f1 o.f1.f2 o.f1.f3 o.f1.f4 o.f2 o.f3 o.f4 o.f5.f0 o.f5.f1 o.f6 = some t) (h0 : t ≠ 0) (x : S42) (hx : x = rd_T42 l (i : Int)) (hne : (o.f1.f0 == x.f1.f0 && (o.f1.f1 == x.f1.f1 && (o.f1.f2 == x.f1.f2 && (o.f1.f3 == x.f1.f3 && (o.f1.f4 == x.f1.f4))))) = true) : Calls Try.prog 16 #[.agg #[.int .i64 a, .int .i64 b, .slice A l.length c], .agg #[.int .i64 o.f0, .int .u8 o.f1.f0, .int .u8 o.f1.f1, .int .u8 o.f1.f2, .int .u32 o.f1.f3, .int .u64 o.f1.f4, .int .i64 o.f2, .int .i64 o.f3, .int .i64 o.f4, .int .u64 o.f5.f0, .int .u64 o.f5.f1, .int .u64 o.f6]] w fun e w' => ∃ A' c', e = .returned (.tuple #[.agg #[.int .i64 a, .int .i64 b, .slice A' (l.set i o).length c'], .int .i64 0]) ∧ (l.set i o).length ≤ c' ∧ Kd.C k42 w' A' (l.set i o).length (l.set i o) ∧ (∀ ad_, A' = some ad_ → w.heap.size ≤ ad_.block) ∧ Below w.heap.size w w' := by
  have HX := Lib.hid hx
  clear hx
  have HN := Lib.hid hne
  clear hne
  have Hov := Lib.hid hov
  clear hov
  obtain ⟨HP0, HO0, HZ0⟩ := alloc3 w (.cells #[.int .i64 a, .int .i64 b, .slice A l.length c] 24) (.cells #[.int .i64 o.f0, .int .u8 o.f1.f0, .int .u8 o.f1.f1, .int .u8 o.f1.f2, .int .u32 o.f1.f3, .int .u64 o.f1.f4, .int .i64 o.f2, .int .i64 o.f3, .int .i64 o.f4, .int .u64 o.f5.f0, .int .u64 o.f5.f1, .int .u64 o.f6] 42) (.cells #[.int .i64 0, .int .i64 0, .slice none 0 0] 24)
  have AB : Below w.heap.size w (((w.alloc (.cells #[.int .i64 a, .int .i64 b, .slice A l.length c] 24)).alloc (.cells #[.int .i64 o.f0, .int .u8 o.f1.f0, .int .u8 o.f1.f1, .int .u8 o.f1.f2, .int .u32 o.f1.f3, .int .u64 o.f1.f4, .int .i64 o.f2, .int .i64 o.f3, .int .i64 o.f4, .int .u64 o.f5.f0, .int .u64 o.f5.f1, .int .u64 o.f6] 42)).alloc (.cells #[.int .i64 0, .int .i64 0, .slice none 0 0] 24)) := vbelow_alloc (vbelow_alloc (vbelow_alloc (Below.refl _ _) _) _) _
  have t1 : decide ((i : Int) < 0) = false := decide_eq_false (by omega)
  go_enter Try.func16, Try.ntmps16
  go_wp2_with fail
  refine (pend_Check.calls k9 a b A c l _ _ (Kd.C_below hr AB) hc hk).mono ?_
  rintro e w1 ⟨rfl, hb1⟩
  have HB1 : Below w.heap.size w w1 := vbelow_step AB hb1
  have HP1 := (hb1.block _ (Array.getElem?_eq_some_iff.1 HP0).1).trans HP0
  have HO1 := (hb1.block _ (Array.getElem?_eq_some_iff.1 HO0).1).trans HO0
  have HZ1 := (hb1.block _ (Array.getElem?_eq_some_iff.1 HZ0).1).trans HZ0
  obtain ⟨P0_1, P1_1, P2_1, PF_1⟩ := blk3 HP1
  have Pf0_1 := PF_1 0
  have Pf1_1 := PF_1 1
  have Pf2_1 := PF_1 2
  clear PF_1
  obtain ⟨O0_1, O1_1, O2_1, O3_1, O4_1, O5_1, O6_1, O7_1, O8_1, O9_1, O10_1, O11_1, OF_1⟩ := blk12 HO1
  clear OF_1
  obtain ⟨Z0_1, Z1_1, Z2_1, ZF_1⟩ := blk3 HZ1
  have Zf0_1 := ZF_1 0
  have Zf1_1 := ZF_1 1
  have Zf2_1 := ZF_1 2
  clear ZF_1
  go_wp2_with fail
  refine (pend_place.calls a b A c l o.f0 _ _ (Kd.C_below hr HB1) hc hp).mono ?_
  rintro e w2 ⟨rfl, hb2⟩
  have HB2 : Below w.heap.size w w2 := vbelow_step HB1 hb2
  have HP2 := (hb2.block _ (Array.getElem?_eq_some_iff.1 HP1).1).trans HP1
  have HO2 := (hb2.block _ (Array.getElem?_eq_some_iff.1 HO1).1).trans HO1
  have HZ2 := (hb2.block _ (Array.getElem?_eq_some_iff.1 HZ1).1).trans HZ1
  obtain ⟨P0_2, P1_2, P2_2, PF_2⟩ := blk3 HP2
  have Pf0_2 := PF_2 0
  have Pf1_2 := PF_2 1
  have Pf2_2 := PF_2 2
  clear PF_2
  obtain ⟨O0_2, O1_2, O2_2, O3_2, O4_2, O5_2, O6_2, O7_2, O8_2, O9_2, O10_2, O11_2, OF_2⟩ := blk12 HO2
  clear OF_2
  obtain ⟨Z0_2, Z1_2, Z2_2, ZF_2⟩ := blk3 HZ2
  have Zf0_2 := ZF_2 0
  have Zf1_2 := ZF_2 1
  have Zf2_2 := ZF_2 2
  clear ZF_2
  have t2 : (o.f2 == 7) = false := beq_eq_false_iff_ne.2 Hov.out
  have hi0 : (0 : Int) ≤ (i : Int) := by omega
  have hin : (i : Int) < (l.length : Int) := by omega
  obtain ⟨ad, rfl, Q0, Q1, Q2, Q3, Q4, Q5, Q6, Q7, Q8, Q9, Q10, Q11⟩ := at_T42 (Kd.C_below hr HB2) (i : Int) hi0 hin
  rw [Int.toNat_natCast, ← HX.out] at Q0 Q1 Q2 Q3 Q4 Q5 Q6 Q7 Q8 Q9 Q10 Q11
  have t3 : (t == 0) = false := beq_eq_false_iff_ne.2 h0
  have hne := HN.out
  go_wp2
  have qo0 := gw_cell O0_2
  have qo1 := gw_cell O1_2
  have qo2 := gw_cell O2_2
  have qo3 := gw_cell O3_2
  have qo4 := gw_cell O4_2
  have qo5 := gw_cell O5_2
  have qo6 := gw_cell O6_2
  have qo7 := gw_cell O7_2
  have qo8 := gw_cell O8_2
  have qo9 := gw_cell O9_2
  have qo10 := gw_cell O10_2
  have qo11 := gw_cell O11_2
  have qp := gw_cell P2_2
  have qx1 := gw_cell Q1
  have qx2 := gw_cell Q2
  have qx3 := gw_cell Q3
  have qx4 := gw_cell Q4
  have qx5 := gw_cell Q5
  clear O0_2 O1_2 O2_2 O3_2 O4_2 O5_2 O6_2 O7_2 O8_2 O9_2 O10_2 O11_2
  refine wp_region_quietB (by kernel_rfl) (by kernel_rfl) ?_
  repeat (first | go_big_quiet_step ((go_at_call 31; exact quietB_of (step_Left.calls k9 o.f0 o.f1.f0 o.f1.f1 o.f1.f2 o.f1.f3 o.f1.f4 o.f2 o.f3 o.f4 o.f5.f0 o.f5.f1 o.f6 _ _ hlf))) | quiet_step ((go_at_call 31; exact quietB_of (step_Left.calls k9 o.f0 o.f1.f0 o.f1.f1 o.f1.f2 o.f1.f3 o.f1.f4 o.f2 o.f3 o.f4 o.f5.f0 o.f5.f1 o.f6 _ _ hlf))))
  refine wpQuiet_nil ?_
  rintro w9 ⟨⟨wq_, hb9⟩, hwq_⟩
  obtain rfl : w9 = wq_ := hwq_
  have HZ9 := (hb9.block _ (Array.getElem?_eq_some_iff.1 HZ2).1).trans HZ2
  have HB9 : Below w.heap.size w w9 := vbelow_step HB2 hb9
  obtain ⟨Z0_9, Z1_9, Z2_9, ZF_9⟩ := blk3 HZ9
  have Zf0_9 := ZF_9 0
  have Zf1_9 := ZF_9 1
  have Zf2_9 := ZF_9 2
  clear ZF_9
  have HO9 := (hb9.block _ (Array.getElem?_eq_some_iff.1 HO2).1).trans HO2
  have HP9 := (hb9.block _ (Array.getElem?_eq_some_iff.1 HP2).1).trans HP2
  obtain ⟨P0_9, P1_9, P2_9, PF_9⟩ := blk3 HP9
  clear hne
  go_wp2_with fail
  refine (pend_own26 a b (some ad) c l _ hn (Kd.C_below hr HB9) hc).mono ?_
  rintro e w10 ⟨g, rfl, ho10, hb10⟩
  have HB10 : Below w.heap.size w w10 := vbelow_step HB9 hb10
  have HZ10 := (hb10.block _ (Array.getElem?_eq_some_iff.1 HZ9).1).trans HZ9
  have HO10 := (hb10.block _ (Array.getElem?_eq_some_iff.1 HO9).1).trans HO9
  have ho11 := Kd.R_alloc ho10 (.cells #[.int .i64 a, .int .i64 b, .slice (some ⟨g, 0, none⟩) l.length l.length] 24)
  have HX11 := heap_alloc_new w10 (.cells #[.int .i64 a, .int .i64 b, .slice (some ⟨g, 0, none⟩) l.length l.length] 24)
  have HZ11 := blk_alloc HZ10 (.cells #[.int .i64 a, .int .i64 b, .slice (some ⟨g, 0, none⟩) l.length l.length] 24)
  have HO11 := blk_alloc HO10 (.cells #[.int .i64 a, .int .i64 b, .slice (some ⟨g, 0, none⟩) l.length l.length] 24)
  have HB11 : Below w.heap.size w (w10.alloc (.cells #[.int .i64 a, .int .i64 b, .slice (some ⟨g, 0, none⟩) l.length l.length] 24)) := vbelow_alloc HB10 _
  have gx : g ≠ w10.heap.size := fun e => Kd.R_ne ho11 HX11 (by decide) (by rw [e]; rfl)
  have gz : g ≠ w.heap.size + 1 + 1 := fun e => Kd.R_ne ho11 HZ11 (by decide) (by rw [e]; rfl)
  have gx' := gx.symm
  have gz' := gz.symm
  have zx : w.heap.size + 1 + 1 ≠ w10.heap.size := Nat.ne_of_lt (heap_lt HZ10)
  have zx' := zx.symm
  obtain ⟨x9, G0, G1, G2, G3, G4, G5, G6, G7, G8, G9, G10, G11, GF, HR⟩ := elem_cells (o := o) ho11 i hi
  have Gf0 := GF 0
  have Gf1 := GF 1
  have Gf2 := GF 2
  have Gf3 := GF 3
  have Gf4 := GF 4
  have Gf5 := GF 5
  have Gf6 := GF 6
  have Gf7 := GF 7
  have Gf8 := GF 8
  have Gf9 := GF 9
  have Gf10 := GF 10
  have Gf11 := GF 11
  clear GF
  rw [Nat.add_zero] at G0 Gf0
  obtain ⟨X0_11, X1_11, X2_11, XF_11⟩ := blk3 HX11
  have Xf0_11 := XF_11 0
  have Xf1_11 := XF_11 1
  have Xf2_11 := XF_11 2
  clear XF_11
  obtain ⟨Z0_11, Z1_11, Z2_11, ZF_11⟩ := blk3 HZ11
  have Zf0_11 := ZF_11 0
  have Zf1_11 := ZF_11 1
  have Zf2_11 := ZF_11 2
  clear ZF_11
  obtain ⟨O0_11, O1_11, O2_11, O3_11, O4_11, O5_11, O6_11, O7_11, O8_11, O9_11, O10_11, O11_11, OF_11⟩ := blk12 HO11
  clear OF_11
  have hlen9 : l.length ≤ 1000 := hn
  have hgw : w.heap.size ≤ g := Nat.le_trans HB9.size (Kd.R_base ho10 g rfl)
  go_wp2
  have HR2 : k42.R 42 (World.setCell (World.setCell (World.setCell (World.setCell (World.setCell (World.setCell (World.setCell (World.setCell (World.setCell (World.setCell (World.setCell (World.setCell (w10.alloc (.cells #[.int .i64 a, .int .i64 b, .slice (some ⟨g, 0, none⟩) l.length l.length] 24)) ⟨g, i * 12, none⟩ (.int .i64 o.f0)) ⟨g, i * 12 + 1, none⟩ (.int .u8 o.f1.f0)) ⟨g, i * 12 + 2, none⟩ (.int .u8 o.f1.f1)) ⟨g, i * 12 + 3, none⟩ (.int .u8 o.f1.f2)) ⟨g, i * 12 + 4, none⟩ (.int .u32 o.f1.f3)) ⟨g, i * 12 + 5, none⟩ (.int .u64 o.f1.f4)) ⟨g, i * 12 + 6, none⟩ (.int .i64 o.f2)) ⟨g, i * 12 + 7, none⟩ (.int .i64 o.f3)) ⟨g, i * 12 + 8, none⟩ (.int .i64 o.f4)) ⟨g, i * 12 + 9, none⟩ (.int .u64 o.f5.f0)) ⟨g, i * 12 + 10, none⟩ (.int .u64 o.f5.f1)) ⟨g, i * 12 + 11, none⟩ (.int .u64 o.f6)) w9.heap.size (fun _ => True) (.slice (some ⟨g, 0, none⟩) l.length l.length) (l.set i o) := HR
  have HZ12 : (World.setCell (World.setCell (World.setCell (World.setCell (World.setCell (World.setCell (World.setCell (World.setCell (World.setCell (World.setCell (World.setCell (World.setCell (w10.alloc (.cells #[.int .i64 a, .int .i64 b, .slice (some ⟨g, 0, none⟩) l.length l.length] 24)) ⟨g, i * 12, none⟩ (.int .i64 o.f0)) ⟨g, i * 12 + 1, none⟩ (.int .u8 o.f1.f0)) ⟨g, i * 12 + 2, none⟩ (.int .u8 o.f1.f1)) ⟨g, i * 12 + 3, none⟩ (.int .u8 o.f1.f2)) ⟨g, i * 12 + 4, none⟩ (.int .u32 o.f1.f3)) ⟨g, i * 12 + 5, none⟩ (.int .u64 o.f1.f4)) ⟨g, i * 12 + 6, none⟩ (.int .i64 o.f2)) ⟨g, i * 12 + 7, none⟩ (.int .i64 o.f3)) ⟨g, i * 12 + 8, none⟩ (.int .i64 o.f4)) ⟨g, i * 12 + 9, none⟩ (.int .u64 o.f5.f0)) ⟨g, i * 12 + 10, none⟩ (.int .u64 o.f5.f1)) ⟨g, i * 12 + 11, none⟩ (.int .u64 o.f6)).heap[w.heap.size + 1 + 1]? = some (.cells #[.int .i64 0, .int .i64 0, .slice none 0 0] 24 (0, 0)) := blk_far (p := ⟨g, i * 12 + 11, none⟩) (blk_far (p := ⟨g, i * 12 + 10, none⟩) (blk_far (p := ⟨g, i * 12 + 9, none⟩) (blk_far (p := ⟨g, i * 12 + 8, none⟩) (blk_far (p := ⟨g, i * 12 + 7, none⟩) (blk_far (p := ⟨g, i * 12 + 6, none⟩) (blk_far (p := ⟨g, i * 12 + 5, none⟩) (blk_far (p := ⟨g, i * 12 + 4, none⟩) (blk_far (p := ⟨g, i * 12 + 3, none⟩) (blk_far (p := ⟨g, i * 12 + 2, none⟩) (blk_far (p := ⟨g, i * 12 + 1, none⟩) (blk_far (p := ⟨g, i * 12, none⟩) (HZ11) gz' _) gz' _) gz' _) gz' _) gz' _) gz' _) gz' _) gz' _) gz' _) gz' _) gz' _) gz' _
  have HB12 : Below w.heap.size w (World.setCell (World.setCell (World.setCell (World.setCell (World.setCell (World.setCell (World.setCell (World.setCell (World.setCell (World.setCell (World.setCell (World.setCell (w10.alloc (.cells #[.int .i64 a, .int .i64 b, .slice (some ⟨g, 0, none⟩) l.length l.length] 24)) ⟨g, i * 12, none⟩ (.int .i64 o.f0)) ⟨g, i * 12 + 1, none⟩ (.int .u8 o.f1.f0)) ⟨g, i * 12 + 2, none⟩ (.int .u8 o.f1.f1)) ⟨g, i * 12 + 3, none⟩ (.int .u8 o.f1.f2)) ⟨g, i * 12 + 4, none⟩ (.int .u32 o.f1.f3)) ⟨g, i * 12 + 5, none⟩ (.int .u64 o.f1.f4)) ⟨g, i * 12 + 6, none⟩ (.int .i64 o.f2)) ⟨g, i * 12 + 7, none⟩ (.int .i64 o.f3)) ⟨g, i * 12 + 8, none⟩ (.int .i64 o.f4)) ⟨g, i * 12 + 9, none⟩ (.int .u64 o.f5.f0)) ⟨g, i * 12 + 10, none⟩ (.int .u64 o.f5.f1)) ⟨g, i * 12 + 11, none⟩ (.int .u64 o.f6)) := vbelow_set (vbelow_set (vbelow_set (vbelow_set (vbelow_set (vbelow_set (vbelow_set (vbelow_set (vbelow_set (vbelow_set (vbelow_set (vbelow_set (HB11) hgw) hgw) hgw) hgw) hgw) hgw) hgw) hgw) hgw) hgw) hgw) hgw
  have E2 := (Kd.R_reads' (Kd.R_far (Kd.R_far (Kd.R_far (Kd.R_types HR2 HZ12 (by decide)) (p := ⟨w.heap.size + 1 + 1, 0, none⟩) (fun k hk => hk.2) (.int .i64 a)) (p := ⟨w.heap.size + 1 + 1, 1, none⟩) (fun k hk => hk.2) (.int .i64 b)) (p := ⟨w.heap.size + 1 + 1, 2, none⟩) (fun k hk => hk.2) (.slice (some ⟨g, 0, none⟩) l.length l.length))).2.2
  refine bodyPost_ret (results_ct rfl _ _ (w.heap.size + 1 + 1) 24 #[.int .i64 a, .int .i64 b, .slice (some ⟨g, 0, none⟩) l.length l.length] (0, 0) _ rfl (put3 HZ12 _ _ _) Try.underlying24 rfl (by kernel_rfl)) rfl ⟨some ⟨g, 0, none⟩, l.length, by rw [List.length_set]; rfl, by rw [List.length_set]; exact Nat.le_refl _, E2, fun ad_ e_ => by injection e_ with e_; subst e_; exact hgw, vbelow_set (vbelow_set (vbelow_set HB12 (Nat.le_add_right w.heap.size 2)) (Nat.le_add_right w.heap.size 2)) (Nat.le_add_right w.heap.size 2)⟩
end Go.Proofs.Ytkkgnmfahhkajaa.Q
