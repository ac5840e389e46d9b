/- Layer 18: one lets go on: refused. -/
import Derived.Test.YtkkgnmfahhkajaaV
import Derived.Test.YtkkgnmfahhkajaaQx0
import Derived.Test.YtkkgnmfahhkajaaQx5
import Derived.Test.YtkkgnmfahhkajaaF3
import Derived.Test.YtkkgnmfahhkajaaF4
import Derived.Test.YtkkgnmfahhkajaaF5
import Derived.Test.YtkkgnmfahhkajaaF8a
namespace Go.Proofs.Ytkkgnmfahhkajaa.Q
open Go.RowKit Go.Proofs.YtkkgnmfahhkajaaW.PrintWords Go.Proofs.YtkkgnmfahhkajaaW.PrintMore
set_option linter.unusedVariables false
set_option linter.unusedSimpArgs false
theorem alloc3 (w : World) (o1 o2 o3 : Obj) : (((w.alloc o1).alloc o2).alloc o3).heap[w.heap.size]? = some o1 ∧ (((w.alloc o1).alloc o2).alloc o3).heap[w.heap.size + 1]? = some o2 ∧ (((w.alloc o1).alloc o2).alloc o3).heap[w.heap.size + 1 + 1]? = some o3 := by
  have z1 : (w.alloc o1).heap.size = w.heap.size + 1 := by rw [World.size_alloc]
  have z2 : ((w.alloc o1).alloc o2).heap.size = w.heap.size + 1 + 1 := by rw [World.size_alloc, z1]
  have h1 := heap_alloc_new w o1
  have h2 := heap_alloc_new (w.alloc o1) o2
  have h3 := heap_alloc_new ((w.alloc o1).alloc o2) o3
  rw [z1] at h2
  rw [z2] at h3
  exact ⟨blk_alloc (blk_alloc h1 _) _, blk_alloc h2 _, h3⟩
set_option maxHeartbeats 1000000 in
set_option maxRecDepth 100000 in
theorem set_a (w : World) (k9 : Nat) (a b : Int) (A : Option Addr) (c : Nat) (l : List S42) (o : S42) (hr : Kd.C k42 w A l.length l) (hc : l.length ≤ c) (r : Int) (hk : pend_Check.f k9 a b l = some r) (h0 : r ≠ 0) : Calls Try.prog 16 #[.agg #[.int .i64 a, .int .i64 b, .slice A l.length c], .agg #[.int .i64 o.f0, .int .u8 o.f1.f0, .int .u8 o.f1.f1, .int .u8 o.f1.f2, .int .u32 o.f1.f3, .int .u64 o.f1.f4, .int .i64 o.f2, .int .i64 o.f3, .int .i64 o.f4, .int .u64 o.f5.f0, .int .u64 o.f5.f1, .int .u64 o.f6]] w fun e w' => e = .returned (.tuple #[.agg #[.int .i64 0, .int .i64 0, .slice none 0 0], .int .i64 180]) ∧ Below w.heap.size w w' := by
  obtain ⟨HP0, HO0, HZ0⟩ := alloc3 w (.cells #[.int .i64 a, .int .i64 b, .slice A l.length c] 24) (.cells #[.int .i64 o.f0, .int .u8 o.f1.f0, .int .u8 o.f1.f1, .int .u8 o.f1.f2, .int .u32 o.f1.f3, .int .u64 o.f1.f4, .int .i64 o.f2, .int .i64 o.f3, .int .i64 o.f4, .int .u64 o.f5.f0, .int .u64 o.f5.f1, .int .u64 o.f6] 42) (.cells #[.int .i64 0, .int .i64 0, .slice none 0 0] 24)
  have AB : Below w.heap.size w (((w.alloc (.cells #[.int .i64 a, .int .i64 b, .slice A l.length c] 24)).alloc (.cells #[.int .i64 o.f0, .int .u8 o.f1.f0, .int .u8 o.f1.f1, .int .u8 o.f1.f2, .int .u32 o.f1.f3, .int .u64 o.f1.f4, .int .i64 o.f2, .int .i64 o.f3, .int .i64 o.f4, .int .u64 o.f5.f0, .int .u64 o.f5.f1, .int .u64 o.f6] 42)).alloc (.cells #[.int .i64 0, .int .i64 0, .slice none 0 0] 24)) := vbelow_alloc (vbelow_alloc (vbelow_alloc (Below.refl _ _) _) _) _
  have t1 : (r != 0) = true := bne_iff_ne.2 h0; have t2 : (r == 0) = false := beq_eq_false_iff_ne.2 h0
  go_enter Try.func16, Try.ntmps16
  go_wp2_with fail
  refine (pend_Check.calls k9 a b A c l _ _ (Kd.C_below hr AB) hc hk).mono ?_
  rintro e w1 ⟨rfl, hb1⟩
  have HB1 : Below w.heap.size w w1 := vbelow_step AB hb1
  have HP1 := (hb1.block _ (Array.getElem?_eq_some_iff.1 HP0).1).trans HP0
  have HO1 := (hb1.block _ (Array.getElem?_eq_some_iff.1 HO0).1).trans HO0
  have HZ1 := (hb1.block _ (Array.getElem?_eq_some_iff.1 HZ0).1).trans HZ0
  obtain ⟨P0_1, P1_1, P2_1, PF_1⟩ := blk3 HP1
  have Pf0_1 := PF_1 0
  have Pf1_1 := PF_1 1
  have Pf2_1 := PF_1 2
  clear PF_1
  obtain ⟨O0_1, O1_1, O2_1, O3_1, O4_1, O5_1, O6_1, O7_1, O8_1, O9_1, O10_1, O11_1, OF_1⟩ := blk12 HO1
  clear OF_1
  obtain ⟨Z0_1, Z1_1, Z2_1, ZF_1⟩ := blk3 HZ1
  have Zf0_1 := ZF_1 0
  have Zf1_1 := ZF_1 1
  have Zf2_1 := ZF_1 2
  clear ZF_1
  go_wp2
  exact bodyPost_ret (results_ct rfl _ _ (w.heap.size + 1 + 1) 24 #[.int .i64 0, .int .i64 0, .slice none 0 0] (0, 0) _ rfl (put3 HZ1 _ _ _) Try.underlying24 rfl (by kernel_rfl)) rfl ⟨rfl, vbelow_set (vbelow_set (vbelow_set HB1 (Nat.le_add_right w.heap.size 2)) (Nat.le_add_right w.heap.size 2)) (Nat.le_add_right w.heap.size 2)⟩
set_option maxHeartbeats 1000000 in
set_option maxRecDepth 100000 in
theorem set_b (w : World) (k9 : Nat) (a b : Int) (A : Option Addr) (c : Nat) (l : List S42) (o : S42) (hr : Kd.C k42 w A l.length l) (hc : l.length ≤ c) (hk : pend_Check.f k9 a b l = some 0) (p : Int) (hp : pend_place.f a b l o.f0 = some p) (hneg : p < 0) : Calls Try.prog 16 #[.agg #[.int .i64 a, .int .i64 b, .slice A l.length c], .agg #[.int .i64 o.f0, .int .u8 o.f1.f0, .int .u8 o.f1.f1, .int .u8 o.f1.f2, .int .u32 o.f1.f3, .int .u64 o.f1.f4, .int .i64 o.f2, .int .i64 o.f3, .int .i64 o.f4, .int .u64 o.f5.f0, .int .u64 o.f5.f1, .int .u64 o.f6]] w fun e w' => e = .returned (.tuple #[.agg #[.int .i64 0, .int .i64 0, .slice none 0 0], .int .i64 182]) ∧ Below w.heap.size w w' := by
  obtain ⟨HP0, HO0, HZ0⟩ := alloc3 w (.cells #[.int .i64 a, .int .i64 b, .slice A l.length c] 24) (.cells #[.int .i64 o.f0, .int .u8 o.f1.f0, .int .u8 o.f1.f1, .int .u8 o.f1.f2, .int .u32 o.f1.f3, .int .u64 o.f1.f4, .int .i64 o.f2, .int .i64 o.f3, .int .i64 o.f4, .int .u64 o.f5.f0, .int .u64 o.f5.f1, .int .u64 o.f6] 42) (.cells #[.int .i64 0, .int .i64 0, .slice none 0 0] 24)
  have AB : Below w.heap.size w (((w.alloc (.cells #[.int .i64 a, .int .i64 b, .slice A l.length c] 24)).alloc (.cells #[.int .i64 o.f0, .int .u8 o.f1.f0, .int .u8 o.f1.f1, .int .u8 o.f1.f2, .int .u32 o.f1.f3, .int .u64 o.f1.f4, .int .i64 o.f2, .int .i64 o.f3, .int .i64 o.f4, .int .u64 o.f5.f0, .int .u64 o.f5.f1, .int .u64 o.f6] 42)).alloc (.cells #[.int .i64 0, .int .i64 0, .slice none 0 0] 24)) := vbelow_alloc (vbelow_alloc (vbelow_alloc (Below.refl _ _) _) _) _
  have t1 : decide (p < 0) = true := decide_eq_true hneg
  go_enter Try.func16, Try.ntmps16
  go_wp2_with fail
  refine (pend_Check.calls k9 a b A c l _ _ (Kd.C_below hr AB) hc hk).mono ?_
  rintro e w1 ⟨rfl, hb1⟩
  have HB1 : Below w.heap.size w w1 := vbelow_step AB hb1
  have HP1 := (hb1.block _ (Array.getElem?_eq_some_iff.1 HP0).1).trans HP0
  have HO1 := (hb1.block _ (Array.getElem?_eq_some_iff.1 HO0).1).trans HO0
  have HZ1 := (hb1.block _ (Array.getElem?_eq_some_iff.1 HZ0).1).trans HZ0
  obtain ⟨P0_1, P1_1, P2_1, PF_1⟩ := blk3 HP1
  have Pf0_1 := PF_1 0
  have Pf1_1 := PF_1 1
  have Pf2_1 := PF_1 2
  clear PF_1
  obtain ⟨O0_1, O1_1, O2_1, O3_1, O4_1, O5_1, O6_1, O7_1, O8_1, O9_1, O10_1, O11_1, OF_1⟩ := blk12 HO1
  clear OF_1
  obtain ⟨Z0_1, Z1_1, Z2_1, ZF_1⟩ := blk3 HZ1
  have Zf0_1 := ZF_1 0
  have Zf1_1 := ZF_1 1
  have Zf2_1 := ZF_1 2
  clear ZF_1
  go_wp2_with fail
  refine (pend_place.calls a b A c l o.f0 _ _ (Kd.C_below hr HB1) hc hp).mono ?_
  rintro e w2 ⟨rfl, hb2⟩
  have HB2 : Below w.heap.size w w2 := vbelow_step HB1 hb2
  have HP2 := (hb2.block _ (Array.getElem?_eq_some_iff.1 HP1).1).trans HP1
  have HO2 := (hb2.block _ (Array.getElem?_eq_some_iff.1 HO1).1).trans HO1
  have HZ2 := (hb2.block _ (Array.getElem?_eq_some_iff.1 HZ1).1).trans HZ1
  obtain ⟨P0_2, P1_2, P2_2, PF_2⟩ := blk3 HP2
  have Pf0_2 := PF_2 0
  have Pf1_2 := PF_2 1
  have Pf2_2 := PF_2 2
  clear PF_2
  obtain ⟨O0_2, O1_2, O2_2, O3_2, O4_2, O5_2, O6_2, O7_2, O8_2, O9_2, O10_2, O11_2, OF_2⟩ := blk12 HO2
  clear OF_2
  obtain ⟨Z0_2, Z1_2, Z2_2, ZF_2⟩ := blk3 HZ2
  have Zf0_2 := ZF_2 0
  have Zf1_2 := ZF_2 1
  have Zf2_2 := ZF_2 2
  clear ZF_2
  go_wp2
  exact bodyPost_ret (results_ct rfl _ _ (w.heap.size + 1 + 1) 24 #[.int .i64 0, .int .i64 0, .slice none 0 0] (0, 0) _ rfl (put3 HZ2 _ _ _) Try.underlying24 rfl (by kernel_rfl)) rfl ⟨rfl, vbelow_set (vbelow_set (vbelow_set HB2 (Nat.le_add_right w.heap.size 2)) (Nat.le_add_right w.heap.size 2)) (Nat.le_add_right w.heap.size 2)⟩
end Go.Proofs.Ytkkgnmfahhkajaa.Q
