/- Layer 18: one lets go on: the last is over. -/
import Derived.Deep.RegionLaw
import Derived.Test.YtkkgnmfahhkajaaV
import Derived.Test.YtkkgnmfahhkajaaQx0
import Derived.Test.YtkkgnmfahhkajaaQx5
import Derived.Test.YtkkgnmfahhkajaaF3
import Derived.Test.YtkkgnmfahhkajaaF4
import Derived.Test.YtkkgnmfahhkajaaF5
import Derived.Test.YtkkgnmfahhkajaaF8a
import Derived.Test.YtkkgnmfahhkajaaF8b
namespace Go.Proofs.Ytkkgnmfahhkajaa.Q
open Go.RowKit Go.Proofs.YtkkgnmfahhkajaaW.PrintWords Go.Proofs.YtkkgnmfahhkajaaW.PrintMore
set_option linter.unusedVariables false
set_option linter.unusedSimpArgs false
theorem step_append_none {P : Program} {ops : Array Oper} {o : Oper} {a : Act} {w : World} {K : Act → World → Prop} {Q : Exit → Act → World → Prop} {E : Prop}
    (hg : o.guard = none) (s x : Operand) (t : TypeId) (hop : o.op = Op.call { callee := Callee.builtin Builtin.append, args := #[s, x], argTypes := #[t, t] })
    (e : TypeId) (i : TypeInfo) (size : Nat) (h1 : P.underlying t = some (.slice e)) (h2 : P.info? e = some i) (h4 : i.size = size)
    (b n cap : Nat) (hs : a.eval s = .slice (some ⟨b, 0, none⟩) n cap) (ad : Addr) (hx : a.eval x = .slice (some ad) 0 0) (hroom : n ≤ cap)
    (hK : K (a.put o.dst (.slice (some ⟨b, 0, none⟩) n cap)) w) :
    if Region.wanted o (yielded ops a.tmps) = true then Oper.wp P o a w K Q else E :=
  step_append_room hg s x t hop e i size h1 h2 h4 b 0 n cap hs ad 0 0 [] hx (by simp) (fun j u h => by simp at h) (fun u h => by simp at h) (by omega) (fun j h => by simp at h) hK
set_option maxHeartbeats 1000000 in
set_option maxRecDepth 100000 in
theorem set_c_last (w : World) (k9 : Nat) (a b : Int) (A : Option Addr) (c : Nat) (l : List S42) (o : S42) (hr : Kd.C k42 w A l.length l) (hc : l.length ≤ c) (hk : pend_Check.f k9 a b l = some 0) (i : Nat) (hi : i < l.length) (hp : pend_place.f a b l o.f0 = some (i : Int)) (hn : l.length ≤ 1000) (hov : o.f2 = 7) (hmid : i + 1 = l.length) (L : List S42) (hL : L = l.take i) : Calls Try.prog 16 #[.agg #[.int .i64 a, .int .i64 b, .slice A l.length c], .agg #[.int .i64 o.f0, .int .u8 o.f1.f0, .int .u8 o.f1.f1, .int .u8 o.f1.f2, .int .u32 o.f1.f3, .int .u64 o.f1.f4, .int .i64 o.f2, .int .i64 o.f3, .int .i64 o.f4, .int .u64 o.f5.f0, .int .u64 o.f5.f1, .int .u64 o.f6]] w fun e w' => ∃ A' c', e = .returned (.tuple #[.agg #[.int .i64 a, .int .i64 b, .slice A' L.length c'], .int .i64 0]) ∧ L.length ≤ c' ∧ Kd.C k42 w' A' L.length L ∧ (∀ ad_, A' = some ad_ → w.heap.size ≤ ad_.block) ∧ Below w.heap.size w w' := by
  have Hov := Lib.hid hov
  clear hov
  have HL := Lib.hid hL
  clear hL
  obtain ⟨HP0, HO0, HZ0⟩ := alloc3 w (.cells #[.int .i64 a, .int .i64 b, .slice A l.length c] 24) (.cells #[.int .i64 o.f0, .int .u8 o.f1.f0, .int .u8 o.f1.f1, .int .u8 o.f1.f2, .int .u32 o.f1.f3, .int .u64 o.f1.f4, .int .i64 o.f2, .int .i64 o.f3, .int .i64 o.f4, .int .u64 o.f5.f0, .int .u64 o.f5.f1, .int .u64 o.f6] 42) (.cells #[.int .i64 0, .int .i64 0, .slice none 0 0] 24)
  have AB : Below w.heap.size w (((w.alloc (.cells #[.int .i64 a, .int .i64 b, .slice A l.length c] 24)).alloc (.cells #[.int .i64 o.f0, .int .u8 o.f1.f0, .int .u8 o.f1.f1, .int .u8 o.f1.f2, .int .u32 o.f1.f3, .int .u64 o.f1.f4, .int .i64 o.f2, .int .i64 o.f3, .int .i64 o.f4, .int .u64 o.f5.f0, .int .u64 o.f5.f1, .int .u64 o.f6] 42)).alloc (.cells #[.int .i64 0, .int .i64 0, .slice none 0 0] 24)) := vbelow_alloc (vbelow_alloc (vbelow_alloc (Below.refl _ _) _) _) _
  have t1 : decide ((i : Int) < 0) = false := decide_eq_false (by omega)
  go_enter Try.func16, Try.ntmps16
  go_wp2_with fail
  refine (pend_Check.calls k9 a b A c l _ _ (Kd.C_below hr AB) hc hk).mono ?_
  rintro e w1 ⟨rfl, hb1⟩
  have HB1 : Below w.heap.size w w1 := vbelow_step AB hb1
  have HP1 := (hb1.block _ (Array.getElem?_eq_some_iff.1 HP0).1).trans HP0
  have HO1 := (hb1.block _ (Array.getElem?_eq_some_iff.1 HO0).1).trans HO0
  have HZ1 := (hb1.block _ (Array.getElem?_eq_some_iff.1 HZ0).1).trans HZ0
  obtain ⟨P0_1, P1_1, P2_1, PF_1⟩ := blk3 HP1
  have Pf0_1 := PF_1 0
  have Pf1_1 := PF_1 1
  have Pf2_1 := PF_1 2
  clear PF_1
  obtain ⟨O0_1, O1_1, O2_1, O3_1, O4_1, O5_1, O6_1, O7_1, O8_1, O9_1, O10_1, O11_1, OF_1⟩ := blk12 HO1
  clear OF_1
  obtain ⟨Z0_1, Z1_1, Z2_1, ZF_1⟩ := blk3 HZ1
  have Zf0_1 := ZF_1 0
  have Zf1_1 := ZF_1 1
  have Zf2_1 := ZF_1 2
  clear ZF_1
  go_wp2_with fail
  refine (pend_place.calls a b A c l o.f0 _ _ (Kd.C_below hr HB1) hc hp).mono ?_
  rintro e w2 ⟨rfl, hb2⟩
  have HB2 : Below w.heap.size w w2 := vbelow_step HB1 hb2
  have HP2 := (hb2.block _ (Array.getElem?_eq_some_iff.1 HP1).1).trans HP1
  have HO2 := (hb2.block _ (Array.getElem?_eq_some_iff.1 HO1).1).trans HO1
  have HZ2 := (hb2.block _ (Array.getElem?_eq_some_iff.1 HZ1).1).trans HZ1
  obtain ⟨P0_2, P1_2, P2_2, PF_2⟩ := blk3 HP2
  have Pf0_2 := PF_2 0
  have Pf1_2 := PF_2 1
  have Pf2_2 := PF_2 2
  clear PF_2
  obtain ⟨O0_2, O1_2, O2_2, O3_2, O4_2, O5_2, O6_2, O7_2, O8_2, O9_2, O10_2, O11_2, OF_2⟩ := blk12 HO2
  clear OF_2
  obtain ⟨Z0_2, Z1_2, Z2_2, ZF_2⟩ := blk3 HZ2
  have Zf0_2 := ZF_2 0
  have Zf1_2 := ZF_2 1
  have Zf2_2 := ZF_2 2
  clear ZF_2
  have t2 : (o.f2 == 7) = true := beq_iff_eq.2 Hov.out
  go_wp2_with fail
  refine (pend_own26 a b A c l _ hn (Kd.C_below hr HB2) hc).mono ?_
  rintro e w3 ⟨g, rfl, ho3, hb3⟩
  have HB3 : Below w.heap.size w w3 := vbelow_step HB2 hb3
  have HP3 := (hb3.block _ (Array.getElem?_eq_some_iff.1 HP2).1).trans HP2
  have HO3 := (hb3.block _ (Array.getElem?_eq_some_iff.1 HO2).1).trans HO2
  have HZ3 := (hb3.block _ (Array.getElem?_eq_some_iff.1 HZ2).1).trans HZ2
  obtain ⟨P0_3, P1_3, P2_3, PF_3⟩ := blk3 HP3
  have Pf0_3 := PF_3 0
  have Pf1_3 := PF_3 1
  have Pf2_3 := PF_3 2
  clear PF_3
  obtain ⟨O0_3, O1_3, O2_3, O3_3, O4_3, O5_3, O6_3, O7_3, O8_3, O9_3, O10_3, O11_3, OF_3⟩ := blk12 HO3
  clear OF_3
  obtain ⟨Z0_3, Z1_3, Z2_3, ZF_3⟩ := blk3 HZ3
  have Zf0_3 := ZF_3 0
  have Zf1_3 := ZF_3 1
  have Zf2_3 := ZF_3 2
  clear ZF_3
  have hw : wrap64 ((i : Int) + 1) = (i : Int) + 1 := w64 (by omega) (by omega)
  have hw2 : IntKind.i64.wrap ((i : Int) + 1) = (i : Int) + 1 := by rw [IntKind.wrap_i64]; omega
  have S1 := fun W => cut_hi g l.length i (by omega) W
  have S2 := fun W => cut_lo g l.length i hi W
  rw [if_pos hmid.symm, show l.length - (i + 1) = 0 by omega] at S2
  have Hmid := Lib.hid hmid
  clear hmid
  have ho4 := Kd.R_alloc ho3 (.cells #[.int .i64 a, .int .i64 b, .slice (some ⟨g, 0, none⟩) l.length l.length] 24)
  have HX4 := heap_alloc_new w3 (.cells #[.int .i64 a, .int .i64 b, .slice (some ⟨g, 0, none⟩) l.length l.length] 24)
  have HZ4 := blk_alloc HZ3 (.cells #[.int .i64 a, .int .i64 b, .slice (some ⟨g, 0, none⟩) l.length l.length] 24)
  have hzx := (Array.getElem?_eq_some_iff.1 HZ3).1
  obtain ⟨i0, hi0, hz0, hsz0, hby0⟩ := info_parts info42
  have HB4 : Below w.heap.size w (w3.alloc (.cells #[.int .i64 a, .int .i64 b, .slice (some ⟨g, 0, none⟩) l.length l.length] 24)) := vbelow_alloc HB3 _
  obtain ⟨X0, X1, X2, XF⟩ := blk3 HX4
  have Xf := XF 2
  clear XF
  obtain ⟨Z0, Z1, Z2, ZF⟩ := blk3 HZ4
  have Zf0 := ZF 0
  have Zf1 := ZF 1
  have Zf2 := ZF 2
  clear ZF
  have hzx2 : w.heap.size + 1 + 1 ≠ w3.heap.size := Nat.ne_of_lt hzx
  have hzx3 := hzx2.symm
  go_wp2
  go_region_law (refine step_append_none rfl (.tmp 31) (.tmp 36) 22 rfl 42 i0 12 Try.underlying22 hi0 hsz0 g i i rfl ⟨g, 0, none⟩ rfl (Nat.le_refl _) ?_)
  all_goals go_wp2
  all_goals (have E2 := (Kd.R_reads' (Kd.R_drew (Kd.R_alloc (Kd.R_far (Kd.R_far (Kd.R_far (Kd.R_types ho3 HZ3 (by decide)) (p := ⟨w.heap.size + 1 + 1, 0, none⟩) (fun k hk => hk.2) (.int .i64 a)) (p := ⟨w.heap.size + 1 + 1, 1, none⟩) (fun k hk => hk.2) (.int .i64 b)) (p := ⟨w.heap.size + 1 + 1, 2, none⟩) (fun k hk => hk.2) (.slice (some ⟨g, 0, none⟩) i i)) (.cells #[.int .i64 a, .int .i64 b, .slice (some ⟨g, 0, none⟩) i i] 24)))).2.2; have hLl : L.length = i := (congrArg List.length HL.out).trans (List.length_take.trans (Nat.min_eq_left (Nat.le_of_lt hi))); have E5 := Kd.C_take (m := i) E2 (Nat.le_of_lt hi); rw [← HL.out] at E5; refine bodyPost_ret (results_ct rfl _ _ (w.heap.size + 1 + 1) 24 #[.int .i64 a, .int .i64 b, .slice (some ⟨g, 0, none⟩) i i] (0, 0) _ rfl (blk_drew (blk_alloc (put3 HZ3 _ _ _) _)) Try.underlying24 rfl (by kernel_rfl)) rfl ⟨some ⟨g, 0, none⟩, i, by rw [hLl]; rfl, Nat.le_of_eq hLl, E5, fun ad_ e_ => by injection e_ with e_; subst e_; exact Nat.le_trans HB2.size (Kd.R_base ho3 g rfl), vbelow_drew (vbelow_alloc (vbelow_set (vbelow_set (vbelow_set HB3 (Nat.le_add_right w.heap.size 2)) (Nat.le_add_right w.heap.size 2)) (Nat.le_add_right w.heap.size 2)) _)⟩)
end Go.Proofs.Ytkkgnmfahhkajaa.Q
