/- Layer 10: the document's Publish, where it may not. -/
import Derived.Test.YtcifbemppbegbaaA32
namespace Go.Proofs.Ytcifbemppbegbaa.Q
open Go.RowKit Go.Proofs.YtcifbemppbegbaaW.PrintWords Go.Proofs.YtcifbemppbegbaaW.PrintMore Go.Proofs.YtcifbemppbegbaaW.PrintLast
set_option linter.unusedVariables false
set_option linter.unusedSimpArgs false
set_option maxRecDepth 100000 in
set_option maxHeartbeats 8000000 in
theorem RPublish_asked (lane n ep x : Int) (k : Nat) {t : Int} {v : Value} {l0 : List S61} {l1 : List S40} {w : World} (h : QV w v l0 l1) (ha : rampartref10_asked.f k l0 l1 lane = some t) (ht : t ≠ 0) : Calls Try.prog 12 #[v, .agg #[.int .i64 lane, .int .i64 n, .int .i64 ep], .int .u64 x] w fun e w' => ∃ v', e = .returned (.tuple #[v', .int .i64 t]) ∧ QO w' v' [] [] ∧ Below w.heap.size w w' := by
 have t1 : (t != 0) = true := bne_iff_ne.2 ht
 obtain ⟨A0, c0, A1, c1, rfl, h0, h1, hC0, hC1⟩ := h
 go_enter Try.func12, Try.ntmps12
 go_wp2_with fail
 obtain ⟨q1, q2, q3, qz, hBB⟩ := three_blocks w (.cells #[.slice A0 l0.length c0, .slice A1 l1.length c1] 25) (.cells #[.int .i64 lane, .int .i64 n, .int .i64 ep] 27) (.cells #[.slice none 0 0, .slice none 0 0] 25)
 have hC0' := Kd.C_below hC0 hBB
 have hC1' := Kd.C_below hC1 hBB
 clear hC0 hC1
 generalize ((w.alloc (.cells #[.slice A0 l0.length c0, .slice A1 l1.length c1] 25)).alloc (.cells #[.int .i64 lane, .int .i64 n, .int .i64 ep] 27)).alloc (.cells #[.slice none 0 0, .slice none 0 0] 25) = w2 at q1 q2 q3 qz hBB hC0' hC1' ⊢
 refine (rampartref10_asked.calls k A0 c0 l0 A1 c1 l1 lane t w2 hC0' h0 hC1' h1 ha).mono ?_
 rintro e w3 ⟨rfl, hb3⟩
 have q1 := heap_on q1 hb3
 have q2 := heap_on q2 hb3
 have q3 := heap_on q3 hb3
 have hB3 := vbelow_step hBB hb3
 have hz3 := hb3.size
 have hC0 := Kd.C_below hC0' hb3
 have hC1 := Kd.C_below hC1' hb3
 obtain ⟨a0, a1, _⟩ := blk2 q1
 obtain ⟨g0, g1, g2, _⟩ := blk3 q2
 obtain ⟨b0, b1, bF⟩ := blk2 q3
 have bF0 := bF 0
 have bF1 := bF 1
 have k1 : w.heap.size < w3.heap.size := by omega
 have k2 : w.heap.size + 1 < w3.heap.size := by omega
 have k3 : w.heap.size + 1 + 1 < w3.heap.size := by omega
 clear bF hBB hb3 hC0' hC1'
 go_wp2_with fail
 refine bodyPost_ret (results_ct rfl _ _ (w.heap.size + 1 + 1) 25 #[.slice none 0 0, .slice none 0 0] (0, 0) _ rfl (put2 q3 _ _) Try.underlying25 rfl (by kernel_rfl)) rfl ?_
 exact ⟨_, rfl, QO.nil _, vbelow_set (vbelow_set hB3 (by show w.heap.size ≤ w.heap.size + 1 + 1; omega)) (by show w.heap.size ≤ w.heap.size + 1 + 1; omega)⟩
set_option maxRecDepth 100000 in
set_option maxHeartbeats 8000000 in
theorem RPublish_less (pl : Int) (i k : Nat) (n ep x : Int) {v : Value} {l0 : List S61} {l1 : List S40} {w : World} (h : QV w v l0 l1) (ha : rampartref10_asked.f k l0 l1 (i : Int) = some 0) (hpl : rampartref10_place.f k l0 l1 (i : Int) n ep = some pl) (hl : pl < 0) : Calls Try.prog 12 #[v, .agg #[.int .i64 (i : Int), .int .i64 n, .int .i64 ep], .int .u64 x] w fun e w' => ∃ v', e = .returned (.tuple #[v', .int .i64 102]) ∧ QO w' v' [] [] ∧ Below w.heap.size w w' := by
 have t1 : ((0 : Int) != 0) = false := rfl
 have t2 : decide (pl < 0) = true := decide_eq_true hl
 obtain ⟨A0, c0, A1, c1, rfl, h0, h1, hC0, hC1⟩ := h
 go_enter Try.func12, Try.ntmps12
 go_wp2_with fail
 obtain ⟨q1, q2, q3, qz, hBB⟩ := three_blocks w (.cells #[.slice A0 l0.length c0, .slice A1 l1.length c1] 25) (.cells #[.int .i64 (i : Int), .int .i64 n, .int .i64 ep] 27) (.cells #[.slice none 0 0, .slice none 0 0] 25)
 have hC0' := Kd.C_below hC0 hBB
 have hC1' := Kd.C_below hC1 hBB
 clear hC0 hC1
 generalize ((w.alloc (.cells #[.slice A0 l0.length c0, .slice A1 l1.length c1] 25)).alloc (.cells #[.int .i64 (i : Int), .int .i64 n, .int .i64 ep] 27)).alloc (.cells #[.slice none 0 0, .slice none 0 0] 25) = w2 at q1 q2 q3 qz hBB hC0' hC1' ⊢
 refine (rampartref10_asked.calls k A0 c0 l0 A1 c1 l1 (i : Int) 0 w2 hC0' h0 hC1' h1 ha).mono ?_
 rintro e w3 ⟨rfl, hb3⟩
 have q1 := heap_on q1 hb3
 have q2 := heap_on q2 hb3
 have q3 := heap_on q3 hb3
 have hB3 := vbelow_step hBB hb3
 have hz3 := hb3.size
 have hC0 := Kd.C_below hC0' hb3
 have hC1 := Kd.C_below hC1' hb3
 obtain ⟨a0, a1, _⟩ := blk2 q1
 obtain ⟨g0, g1, g2, _⟩ := blk3 q2
 obtain ⟨b0, b1, bF⟩ := blk2 q3
 have bF0 := bF 0
 have bF1 := bF 1
 have k1 : w.heap.size < w3.heap.size := by omega
 have k2 : w.heap.size + 1 < w3.heap.size := by omega
 have k3 : w.heap.size + 1 + 1 < w3.heap.size := by omega
 clear bF hBB hb3 hC0' hC1'
 go_wp2_with fail
 refine (rampartref10_place.calls k A0 c0 l0 A1 c1 l1 (i : Int) n ep pl _ hC0 h0 hC1 h1 hpl).mono ?_
 rintro e w4 ⟨rfl, hb4⟩
 have q1 := heap_on q1 hb4
 have q2 := heap_on q2 hb4
 have q3 := heap_on q3 hb4
 have hB4 := vbelow_step hB3 hb4
 have hz4 := hb4.size
 have hC0 := Kd.C_below hC0 hb4
 have hC1 := Kd.C_below hC1 hb4
 clear a0 a1 g0 g1 g2 b0 b1 bF0 bF1 hb4 hB3
 obtain ⟨a0, a1, _⟩ := blk2 q1
 obtain ⟨g0, g1, g2, _⟩ := blk3 q2
 obtain ⟨b0, b1, bF⟩ := blk2 q3
 have bF0 := bF 0
 have bF1 := bF 1
 have k4 : w.heap.size < w4.heap.size := by omega
 have k5 : w.heap.size + 1 < w4.heap.size := by omega
 have k6 : w.heap.size + 1 + 1 < w4.heap.size := by omega
 clear bF
 go_wp2_with fail
 refine bodyPost_ret (results_ct rfl _ _ (w.heap.size + 1 + 1) 25 #[.slice none 0 0, .slice none 0 0] (0, 0) _ rfl (put2 q3 _ _) Try.underlying25 rfl (by kernel_rfl)) rfl ?_
 exact ⟨_, rfl, QO.nil _, vbelow_set (vbelow_set hB4 (by show w.heap.size ≤ w.heap.size + 1 + 1; omega)) (by show w.heap.size ≤ w.heap.size + 1 + 1; omega)⟩
set_option maxRecDepth 100000 in
set_option maxHeartbeats 8000000 in
theorem RPublish_more (pl : Int) (i k : Nat) (n ep x : Int) {v : Value} {l0 : List S61} {l1 : List S40} {w : World} (h : QV w v l0 l1) (ha : rampartref10_asked.f k l0 l1 (i : Int) = some 0) (hpl : rampartref10_place.f k l0 l1 (i : Int) n ep = some pl) (hl : 0 < pl) : Calls Try.prog 12 #[v, .agg #[.int .i64 (i : Int), .int .i64 n, .int .i64 ep], .int .u64 x] w fun e w' => ∃ v', e = .returned (.tuple #[v', .int .i64 103]) ∧ QO w' v' [] [] ∧ Below w.heap.size w w' := by
 have t1 : ((0 : Int) != 0) = false := rfl
 have t2 : decide (pl < 0) = false := decide_eq_false (by omega)
 have t3 : decide (0 < pl) = true := decide_eq_true hl
 obtain ⟨A0, c0, A1, c1, rfl, h0, h1, hC0, hC1⟩ := h
 go_enter Try.func12, Try.ntmps12
 go_wp2_with fail
 obtain ⟨q1, q2, q3, qz, hBB⟩ := three_blocks w (.cells #[.slice A0 l0.length c0, .slice A1 l1.length c1] 25) (.cells #[.int .i64 (i : Int), .int .i64 n, .int .i64 ep] 27) (.cells #[.slice none 0 0, .slice none 0 0] 25)
 have hC0' := Kd.C_below hC0 hBB
 have hC1' := Kd.C_below hC1 hBB
 clear hC0 hC1
 generalize ((w.alloc (.cells #[.slice A0 l0.length c0, .slice A1 l1.length c1] 25)).alloc (.cells #[.int .i64 (i : Int), .int .i64 n, .int .i64 ep] 27)).alloc (.cells #[.slice none 0 0, .slice none 0 0] 25) = w2 at q1 q2 q3 qz hBB hC0' hC1' ⊢
 refine (rampartref10_asked.calls k A0 c0 l0 A1 c1 l1 (i : Int) 0 w2 hC0' h0 hC1' h1 ha).mono ?_
 rintro e w3 ⟨rfl, hb3⟩
 have q1 := heap_on q1 hb3
 have q2 := heap_on q2 hb3
 have q3 := heap_on q3 hb3
 have hB3 := vbelow_step hBB hb3
 have hz3 := hb3.size
 have hC0 := Kd.C_below hC0' hb3
 have hC1 := Kd.C_below hC1' hb3
 obtain ⟨a0, a1, _⟩ := blk2 q1
 obtain ⟨g0, g1, g2, _⟩ := blk3 q2
 obtain ⟨b0, b1, bF⟩ := blk2 q3
 have bF0 := bF 0
 have bF1 := bF 1
 have k1 : w.heap.size < w3.heap.size := by omega
 have k2 : w.heap.size + 1 < w3.heap.size := by omega
 have k3 : w.heap.size + 1 + 1 < w3.heap.size := by omega
 clear bF hBB hb3 hC0' hC1'
 go_wp2_with fail
 refine (rampartref10_place.calls k A0 c0 l0 A1 c1 l1 (i : Int) n ep pl _ hC0 h0 hC1 h1 hpl).mono ?_
 rintro e w4 ⟨rfl, hb4⟩
 have q1 := heap_on q1 hb4
 have q2 := heap_on q2 hb4
 have q3 := heap_on q3 hb4
 have hB4 := vbelow_step hB3 hb4
 have hz4 := hb4.size
 have hC0 := Kd.C_below hC0 hb4
 have hC1 := Kd.C_below hC1 hb4
 clear a0 a1 g0 g1 g2 b0 b1 bF0 bF1 hb4 hB3
 obtain ⟨a0, a1, _⟩ := blk2 q1
 obtain ⟨g0, g1, g2, _⟩ := blk3 q2
 obtain ⟨b0, b1, bF⟩ := blk2 q3
 have bF0 := bF 0
 have bF1 := bF 1
 have k4 : w.heap.size < w4.heap.size := by omega
 have k5 : w.heap.size + 1 < w4.heap.size := by omega
 have k6 : w.heap.size + 1 + 1 < w4.heap.size := by omega
 clear bF
 go_wp2_with fail
 refine bodyPost_ret (results_ct rfl _ _ (w.heap.size + 1 + 1) 25 #[.slice none 0 0, .slice none 0 0] (0, 0) _ rfl (put2 q3 _ _) Try.underlying25 rfl (by kernel_rfl)) rfl ?_
 exact ⟨_, rfl, QO.nil _, vbelow_set (vbelow_set hB4 (by show w.heap.size ≤ w.heap.size + 1 + 1; omega)) (by show w.heap.size ≤ w.heap.size + 1 + 1; omega)⟩
end Go.Proofs.Ytcifbemppbegbaa.Q

/- Layer 10: the document's Publish: the first claim cut off. -/
namespace Go.Proofs.Ytcifbemppbegbaa.Q
open Go.RowKit Go.Proofs.YtcifbemppbegbaaW.PrintWords Go.Proofs.YtcifbemppbegbaaW.PrintMore Go.Proofs.YtcifbemppbegbaaW.PrintLast
set_option linter.unusedVariables false
set_option linter.unusedSimpArgs false
def rpub.T10 : Bool × List (List Nat × List Nat) := (true, [([], []), ([0], [0]), ([], []), ([2], [2]), ([], []), ([], []), ([5], [5]), ([], []), ([7], [7]), ([6, 8], [6, 8]), ([9], [9]), ([10], [10]), ([11], [11]), ([4, 12], [4, 12]), ([1, 3, 0, 1, 2, 3, 4, 5, 6, 7, 8, 9, 10, 11, 12, 13], [1, 3]), ([14, 0, 1, 2, 3, 4, 5, 6, 7, 8, 9, 10, 11, 12, 13], [14]), ([15, 13, 13, 0, 1, 2, 3, 4, 5, 6, 7, 8, 9, 10, 11, 12, 13], [13, 15])])
def rpub.B10 : List Nat := [0, 1, 0, 4, 0, 0, 32, 0, 128, 480, 992, 2016, 4064, 8176, 16383, 32767, 65535]
theorem rpub.tab10 : rtab .any (opsOf Try.f12 10) = rpub.T10 := by kernel_rfl
theorem rpub.bits10 : waitsOk rpub.T10.2 rpub.B10 = true := by kernel_rfl
set_option maxRecDepth 100000 in
set_option maxHeartbeats 8000000 in
theorem rpub_r10 (xb bc gl n0 cv c i m' c' : Nat) (A A' : Option Addr) (f3 f' : List Int) (ds : List Deferred) (t0 t1 t2 t3 t5 t6 t7 t8 t9 t11 t12 t13 t14 t15 t16 t17 t18 t19 t20 t21 t22 t23 t24 t25 t26 t27 t28 t29 t30 t31 t32 t33 t34 t35 t36 t37 t38 t39 t40 t41 t42 t43 t44 t45 t46 t47 t48 t49 t50 t51 t52 t53 t54 t55 t56 t57 t58 t59 : Value) (w : World) (ops : Array Oper) (hops : opsOf Try.f12 10 = ops) (hX : w.cell? ⟨xb, 0, none⟩ = some (.slice (some ⟨gl, 0, none⟩) n0 cv)) (hI : w.cell? ⟨bc, 0, none⟩ = some (.int .i64 (i : Int))) (hU : w.cell? ⟨gl, i * 6 + 3, none⟩ = some (.slice A f3.length c)) (hi0 : (0 : Int) ≤ (i : Int)) (hi : (i : Int) < (n0 : Int)) (hcu : ∀ W : World, (Instr.slice 48 (.slice A f3.length c) (some (.int .i64 1)) none none).run Try.prog W = .ok (.slice A' f'.length c') W) (hC : (Kd.int .i64).C w A' f'.length f') (hb3 : f'.length ≤ 1000000)
  (hF : ∀ wc : World, Below w.heap.size w wc → wc.frozen? ⟨gl, i * 6 + 3, none⟩ = false) :
  (Code.region 10 ops true).wp Try.prog (NoPanic fun e a w' => e = .normal ∧ ∃ (s30 s31 s32 s33 s34 s35 s36 s37 s38 s39 s40 s41 s42 s43 s44 s45 : Value) (Av : Option Addr) (cv' : Nat) (wc : World), a = { tmps := #[t0, t1, t2, t3, .pointer (some ⟨bc, 0, none⟩), t5, t6, t7, t8, t9, .pointer (some ⟨xb, 0, none⟩), t11, t12, t13, t14, t15, t16, t17, t18, t19, t20, t21, t22, t23, t24, t25, t26, t27, t28, t29, s30, s31, s32, s33, s34, s35, s36, s37, s38, s39, s40, s41, s42, s43, s44, s45, t46, t47, t48, t49, t50, t51, t52, t53, t54, t55, t56, t57, t58, t59], defers := ds } ∧ w' = wc.setCell ⟨gl, i * 6 + 3, none⟩ (.slice Av f'.length cv') ∧ (Kd.int .i64).R 3 wc w.heap.size (fun _ => True) (.slice Av f'.length cv') f' ∧ Below w.heap.size w wc) { tmps := #[t0, t1, t2, t3, .pointer (some ⟨bc, 0, none⟩), t5, t6, t7, t8, t9, .pointer (some ⟨xb, 0, none⟩), t11, t12, t13, t14, t15, t16, t17, t18, t19, t20, t21, t22, t23, t24, t25, t26, t27, t28, t29, t30, t31, t32, t33, t34, t35, t36, t37, t38, t39, t40, t41, t42, t43, t44, t45, t46, t47, t48, t49, t50, t51, t52, t53, t54, t55, t56, t57, t58, t59], defers := ds } w := by
  simp [opsOf, opsIn, Try.f12] at hops
  subst hops
  have hS : Below w.heap.size w w.drew := vbelow_drew (Below.refl _ _)
  have hC0 := Kd.C_drew hC
  have hX0 := hX
  have hI0 := hI
  have hU0 := hU
  refine start_ (n := 17) (S := fun w' => w'.cell? ⟨xb, 0, none⟩ = some (.slice (some ⟨gl, 0, none⟩) n0 cv) ∧ w'.cell? ⟨bc, 0, none⟩ = some (.int .i64 (i : Int)) ∧ w'.cell? ⟨gl, i * 6 + 3, none⟩ = some (.slice A f3.length c)) (ds := [16]) #[false, false, false, false, false, false, false, false, false, false, false, false, false, false, false, false, false] (by kernel_rfl) rfl rfl ⟨hX, hI, hU⟩ (fun hHeld => ?_)
  refine with_tabW rpub.tab10 rpub.bits10 (fun HT_ HW_ => ?_)
  refine pure_ (i := 0) (N := some 30) (v := ?_) (a' := ?_) #[true, false, false, false, false, false, false, false, false, false, false, false, false, false, false, false, false] rfl rfl (any_of HT_.out (by kernel_rfl)) (fun _ _ _ h => h) (Or.inl ⟨by rfl, ?_⟩) ?_ ?_
  rotate_left
  ·intro w'
   go_simp
   with_reducible rfl
  rotate_left
  ·simp only [Act.put, List.setIfInBounds_toArray, List.set_cons_zero, List.set_cons_succ]
   rfl
  refine pure_ (i := 2) (N := some 32) (v := ?_) (a' := ?_) #[true, false, true, false, false, false, false, false, false, false, false, false, false, false, false, false, false] rfl rfl (any_of HT_.out (by kernel_rfl)) (fun _ _ _ h => h) (Or.inl ⟨by rfl, ?_⟩) ?_ ?_
  rotate_left
  ·intro w'
   go_simp
   with_reducible rfl
  rotate_left
  ·simp only [Act.put, List.setIfInBounds_toArray, List.set_cons_zero, List.set_cons_succ]
   rfl
  refine pure_ (i := 5) (N := some 35) (v := ?_) (a' := ?_) #[true, false, true, false, false, true, false, false, false, false, false, false, false, false, false, false, false] rfl rfl (any_of HT_.out (by kernel_rfl)) (fun _ _ _ h => h) (Or.inl ⟨by rfl, ?_⟩) ?_ ?_
  rotate_left
  ·intro w'
   go_simp
   with_reducible rfl
  rotate_left
  ·simp only [Act.put, List.setIfInBounds_toArray, List.set_cons_zero, List.set_cons_succ]
   rfl
  refine pure_ (i := 7) (N := some 37) (v := ?_) (a' := ?_) #[true, false, true, false, false, true, false, true, false, false, false, false, false, false, false, false, false] rfl rfl (any_of HT_.out (by kernel_rfl)) (fun _ _ _ h => h) (Or.inl ⟨by rfl, ?_⟩) ?_ ?_
  rotate_left
  ·intro w'
   go_simp
   with_reducible rfl
  rotate_left
  ·simp only [Act.put, List.setIfInBounds_toArray, List.set_cons_zero, List.set_cons_succ]
   rfl
  refine take_ (i := 1) (N := some 31) (v := ?_) (a' := ?_) #[true, true, true, false, false, true, false, true, false, false, false, false, false, false, false, false, false] rfl rfl (take_ofW HT_.out HW_.out (by kernel_rfl)) (fun _ _ _ h => h) (Or.inl ⟨by rfl, ?_⟩) hHeld ?_ ?_
  rotate_left
  ·rintro w' ⟨z0, z1, z2⟩
   go_simp
   with_reducible rfl
  rotate_left
  ·simp only [Act.put, List.setIfInBounds_toArray, List.set_cons_zero, List.set_cons_succ]
   rfl
  refine take_ (i := 3) (N := some 33) (v := ?_) (a' := ?_) #[true, true, true, true, false, true, false, true, false, false, false, false, false, false, false, false, false] rfl rfl (take_ofW HT_.out HW_.out (by kernel_rfl)) (fun _ _ _ h => h) (Or.inl ⟨by rfl, ?_⟩) hHeld ?_ ?_
  rotate_left
  ·rintro w' ⟨z0, z1, z2⟩
   go_simp
   with_reducible rfl
  rotate_left
  ·simp only [Act.put, List.setIfInBounds_toArray, List.set_cons_zero, List.set_cons_succ]
   rfl
  refine take_ (i := 6) (N := some 36) (v := ?_) (a' := ?_) #[true, true, true, true, false, true, true, true, false, false, false, false, false, false, false, false, false] rfl rfl (take_ofW HT_.out HW_.out (by kernel_rfl)) (fun _ _ _ h => h) (Or.inl ⟨by rfl, ?_⟩) hHeld ?_ ?_
  rotate_left
  ·rintro w' ⟨z0, z1, z2⟩
   go_simp
   with_reducible rfl
  rotate_left
  ·simp only [Act.put, List.setIfInBounds_toArray, List.set_cons_zero, List.set_cons_succ]
   rfl
  refine take_ (i := 8) (N := some 38) (v := ?_) (a' := ?_) #[true, true, true, true, false, true, true, true, true, false, false, false, false, false, false, false, false] rfl rfl (take_ofW HT_.out HW_.out (by kernel_rfl)) (fun _ _ _ h => h) (Or.inl ⟨by rfl, ?_⟩) hHeld ?_ ?_
  rotate_left
  ·rintro w' ⟨z0, z1, z2⟩
   go_simp
   with_reducible rfl
  rotate_left
  ·simp only [Act.put, List.setIfInBounds_toArray, List.set_cons_zero, List.set_cons_succ]
   rfl
  refine pure_ (i := 9) (N := some 39) (v := ?_) (a' := ?_) #[true, true, true, true, false, true, true, true, true, true, false, false, false, false, false, false, false] rfl rfl (any_of HT_.out (by kernel_rfl)) (fun _ _ _ h => h) (Or.inl ⟨by rfl, ?_⟩) ?_ ?_
  rotate_left
  ·intro w'
   go_simp
   with_reducible rfl
  rotate_left
  ·simp only [Act.put, List.setIfInBounds_toArray, List.set_cons_zero, List.set_cons_succ]
   rfl
  refine pure_ (i := 10) (N := some 40) (v := ?_) (a' := ?_) #[true, true, true, true, false, true, true, true, true, true, true, false, false, false, false, false, false] rfl rfl (any_of HT_.out (by kernel_rfl)) (fun _ _ _ h => h) (Or.inl ⟨by rfl, ?_⟩) ?_ ?_
  rotate_left
  ·intro w'
   go_simp
   with_reducible rfl
  rotate_left
  ·simp only [Act.put, List.setIfInBounds_toArray, List.set_cons_zero, List.set_cons_succ]
   rfl
  refine take_ (i := 11) (N := some 41) (v := ?_) (a' := ?_) #[true, true, true, true, false, true, true, true, true, true, true, true, false, false, false, false, false] rfl rfl (take_ofW HT_.out HW_.out (by kernel_rfl)) (fun _ _ _ h => h) (Or.inl ⟨by rfl, ?_⟩) hHeld ?_ ?_
  rotate_left
  ·rintro w' ⟨z0, z1, z2⟩
   go_simp
   with_reducible rfl
  rotate_left
  ·simp only [Act.put, List.setIfInBounds_toArray, List.set_cons_zero, List.set_cons_succ]
   rfl
  refine pure_ (i := 12) (N := some 42) (v := ?_) (a' := ?_) #[true, true, true, true, false, true, true, true, true, true, true, true, true, false, false, false, false] rfl rfl (any_of HT_.out (by kernel_rfl)) (fun _ _ _ h => h) (Or.inl ⟨by rfl, ?_⟩) ?_ ?_
  rotate_left
  ·intro w'
   go_simp
   with_reducible rfl
  rotate_left
  ·simp only [Act.put, List.setIfInBounds_toArray, List.set_cons_zero, List.set_cons_succ]
   rfl
  clear hX hI hU
  generalize w.drew = W0 at hS hC0 ⊢ hHeld
  have hB0 : Below w.heap.size w W0 := hS
  refine one_ (i := 4) (N := some 34) #[true, true, true, true, true, true, true, true, true, true, true, true, true, false, false, false, false] rfl rfl (one_of HT_.out (by kernel_rfl)) (by decide) (fun K hK => ?_)
  refine Kd.R_lit_step (Kd.int .i64) (w0 := w) w.heap.size 3 ?hg (N := 34) ?hd (xs := ([] : List Int)) (inner := []) (ok := fun _ => True) (okp := fun _ => True) ?hr ?hp (fun _ hk => hk) trivial hB0 hS.size (by simp) ?_; (case hd => rfl); (case hg => rfl); (case hr => first | (go_simp; done) | (go_simp; rfl)); (case hp => exact Reps.none _ _)
  intro vl Wl hl hBl hgl_ hal
  have hWl : Below W0.heap.size W0 Wl := ⟨hgl_.os, hgl_.tape, hgl_.output, hgl_.size, fun k hk => hgl_.block k hk (by simp)⟩
  have hC1 := Kd.C_below hC0 hWl
  obtain ⟨Al, cl, el⟩ := Kd.R_slice hl
  subst el
  refine hK.out _ _ ⟨vcell hWl hHeld.1, vcell hWl hHeld.2.1, vcell hWl hHeld.2.2⟩ (fun hHeld => ?_)
  clear hK K hgl_ hal
  refine norm_ (a' := ?_) ?_ ?_
  rotate_left
  ·show Act.put _ (some 34) _ = _
   simp only [Act.put, List.setIfInBounds_toArray, List.set_cons_zero, List.set_cons_succ]
   rfl
  refine one_ (i := 13) (N := some 43) #[true, true, true, true, true, true, true, true, true, true, true, true, true, true, false, false, false] rfl rfl (one_of HT_.out (by kernel_rfl)) (by decide) (fun K hK => ?_)
  refine Kd.R_append_rows_step (Kd.int .i64) (w0 := w) w.heap.size (by rfl) (.tmp 34) (.tmp 42) 48 3 (.int .i64 0) 8 rfl Try.underlying48 infoI3 rfl (by decide) (by omega) (.slice Al 0 cl) [] f' _ _ _ (fun _ => True) (fun _ => False) rfl rfl ?aO hC1 (fun _ _ h => h) (fun _ h => h.elim) (fun _ _ => trivial) ?aB ?aS ?aL ?_; (case aB => exact hBl); (case aO => exact hl); (case aS => exact hBl.size); (case aL => simp only [List.length_nil]; omega)
  intro va wc hRa hBa hga hata
  rw [List.nil_append] at hRa
  obtain ⟨Av, cv', ea⟩ := Kd.R_slice hRa
  subst ea
  have hF1 := hF wc hBa
  have h1_ := vcell hBa hX0
  have h2_ := vcell hBa hI0
  have h3_ := vcell hBa hU0
  refine hK.out _ _ ⟨h1_, h2_, h3_⟩ (fun hHeld => ?_)
  clear hK K
  refine norm_ (a' := ?_) ?_ ?_
  rotate_left
  ·show Act.put _ (some 43) _ = _
   simp only [Act.put, List.setIfInBounds_toArray, List.set_cons_zero, List.set_cons_succ]
   rfl
  refine pure_ (i := 14) (N := some 44) (v := ?_) (a' := ?_) #[true, true, true, true, true, true, true, true, true, true, true, true, true, true, true, false, false] rfl rfl (any_of HT_.out (by kernel_rfl)) (fun _ _ _ h => h) (Or.inl ⟨by rfl, ?_⟩) ?_ ?_
  rotate_left
  ·intro w'
   go_simp
   with_reducible rfl
  rotate_left
  ·simp only [Act.put, List.setIfInBounds_toArray, List.set_cons_zero, List.set_cons_succ]
   rfl
  refine pure_ (i := 15) (N := some 45) (v := ?_) (a' := ?_) #[true, true, true, true, true, true, true, true, true, true, true, true, true, true, true, true, false] rfl rfl (any_of HT_.out (by kernel_rfl)) (fun _ _ _ h => h) (Or.inl ⟨by rfl, ?_⟩) ?_ ?_
  rotate_left
  ·intro w'
   go_simp
   with_reducible rfl
  rotate_left
  ·simp only [Act.put, List.setIfInBounds_toArray, List.set_cons_zero, List.set_cons_succ]
   rfl
  refine last_ (i := 16) (N := none) #[true, true, true, true, true, true, true, true, true, true, true, true, true, true, true, true, true] rfl rfl (one_of HT_.out (by kernel_rfl)) (by decide) (fun K hK => ?_)
  refine skip_ (w1 := ?_) (by rfl) rfl ?_ ?_
  rotate_left
  ·go_simp
   rfl
  refine hK.out _ _ ?_
  clear hK K
  refine done_ (done_of HT_.out (by kernel_rfl)) ?_
  exact ⟨rfl, _, _, _, _, _, _, _, _, _, _, _, _, _, _, _, _, Av, cv', wc, rfl, rfl, hRa, hBa⟩
end Go.Proofs.Ytcifbemppbegbaa.Q

/- Layer 10: the document's Publish, where it may. -/
namespace Go.Proofs.Ytcifbemppbegbaa.Q
open Go.RowKit Go.Proofs.YtcifbemppbegbaaW.PrintWords Go.Proofs.YtcifbemppbegbaaW.PrintMore Go.Proofs.YtcifbemppbegbaaW.PrintLast
set_option linter.unusedVariables false
set_option linter.unusedSimpArgs false
set_option maxRecDepth 100000 in
set_option maxHeartbeats 8000000 in
theorem RPublish_done (i k : Nat) (n ep x : Int) {v : Value} {l0 : List S61} {l1 : List S40} {w : World} (h : QV w v l0 l1) (ha : rampartref10_asked.f k l0 l1 (i : Int) = some 0) (hpl : rampartref10_place.f k l0 l1 (i : Int) n ep = some 0) (ho : rampartref10_own.f k l0 l1 = some (l0, l1)) {y : S61} (hx : l0[i]? = some y) (hne : 1 ≤ y.f3.length) (hn0 : l0.length ≤ 10000) (hn1 : l1.length ≤ 1000) (hl3 : y.f3.length ≤ 1000000) : Calls Try.prog 12 #[v, .agg #[.int .i64 (i : Int), .int .i64 n, .int .i64 ep], .int .u64 x] w fun e w' => ∃ v', e = .returned (.tuple #[v', .int .i64 0]) ∧ QO w' v' (l0.set i { y with f3 := y.f3.drop 1 }) (l1 ++ [(⟨(i : Int), ep, n, x⟩ : S40)]) ∧ Below w.heap.size w w' := by
 have t1 : ((0 : Int) != 0) = false := rfl
 have hi : i < l0.length := (List.getElem?_eq_some_iff.1 hx).1
 have hi0 : (0 : Int) ≤ (i : Int) := by omega
 have hi1 : (i : Int) < (l0.length : Int) := by omega
 obtain ⟨A0, c0, A1, c1, rfl, h0, h1, hC0, hC1⟩ := h
 go_enter Try.func12, Try.ntmps12
 go_wp2_with fail
 obtain ⟨q1, q2, q3, qz, hBB⟩ := three_blocks w (.cells #[.slice A0 l0.length c0, .slice A1 l1.length c1] 25) (.cells #[.int .i64 (i : Int), .int .i64 n, .int .i64 ep] 27) (.cells #[.slice none 0 0, .slice none 0 0] 25)
 have hC0' := Kd.C_below hC0 hBB
 have hC1' := Kd.C_below hC1 hBB
 clear hC0 hC1
 generalize ((w.alloc (.cells #[.slice A0 l0.length c0, .slice A1 l1.length c1] 25)).alloc (.cells #[.int .i64 (i : Int), .int .i64 n, .int .i64 ep] 27)).alloc (.cells #[.slice none 0 0, .slice none 0 0] 25) = w2 at q1 q2 q3 qz hBB hC0' hC1' ⊢
 refine (rampartref10_asked.calls k A0 c0 l0 A1 c1 l1 (i : Int) 0 w2 hC0' h0 hC1' h1 ha).mono ?_
 rintro e w3 ⟨rfl, hb3⟩
 have q1 := heap_on q1 hb3
 have q2 := heap_on q2 hb3
 have q3 := heap_on q3 hb3
 have hB3 := vbelow_step hBB hb3
 have hz3 := hb3.size
 have hC0 := Kd.C_below hC0' hb3
 have hC1 := Kd.C_below hC1' hb3
 obtain ⟨a0, a1, _⟩ := blk2 q1
 obtain ⟨g0, g1, g2, _⟩ := blk3 q2
 obtain ⟨b0, b1, bF⟩ := blk2 q3
 have bF0 := bF 0
 have bF1 := bF 1
 have k1 : w.heap.size < w3.heap.size := by omega
 have k2 : w.heap.size + 1 < w3.heap.size := by omega
 have k3 : w.heap.size + 1 + 1 < w3.heap.size := by omega
 clear bF hBB hb3 hC0' hC1'
 go_wp2_with fail
 refine (rampartref10_place.calls k A0 c0 l0 A1 c1 l1 (i : Int) n ep 0 _ hC0 h0 hC1 h1 hpl).mono ?_
 rintro e w4 ⟨rfl, hb4⟩
 have q1 := heap_on q1 hb4
 have q2 := heap_on q2 hb4
 have q3 := heap_on q3 hb4
 have hB4 := vbelow_step hB3 hb4
 have hz4 := hb4.size
 have hC0 := Kd.C_below hC0 hb4
 have hC1 := Kd.C_below hC1 hb4
 clear a0 a1 g0 g1 g2 b0 b1 bF0 bF1 hb4 hB3
 obtain ⟨a0, a1, _⟩ := blk2 q1
 obtain ⟨g0, g1, g2, _⟩ := blk3 q2
 obtain ⟨b0, b1, bF⟩ := blk2 q3
 have bF0 := bF 0
 have bF1 := bF 1
 have k4 : w.heap.size < w4.heap.size := by omega
 have k5 : w.heap.size + 1 < w4.heap.size := by omega
 have k6 : w.heap.size + 1 + 1 < w4.heap.size := by omega
 clear bF
 go_wp2_with fail
 refine (rampartref10_own.calls k A0 c0 l0 A1 c1 l1 l0 l1 _ hC0 h0 hC1 h1 ho).mono ?_
 rintro e w5 ⟨v0, v1, rfl, hS, hM, hb5⟩
 obtain ⟨gl, cv, rfl, hcv, hH⟩ := Half.of_S hS (by omega)
 obtain ⟨A2, d2, rfl, hd2, _⟩ := R40_QO hM
 have q2 := heap_on q2 hb5
 have q3 := heap_on q3 hb5
 have hB5 := vbelow_step hB4 hb5
 have hz5 := hb5.size
 clear a0 a1 g0 g1 g2 b0 b1 bF0 bF1 q1 hb5 hC0 hC1 hB4 hS
 go_upto_region 10 with fail
 have hbx := vbelow_alloc (Below.refl w5.heap.size w5) (.cells #[.slice (some ⟨gl, 0, none⟩) l0.length cv, .slice A2 l1.length d2] 25)
 have u1 := heap_alloc_new w5 (.cells #[.slice (some ⟨gl, 0, none⟩) l0.length cv, .slice A2 l1.length d2] 25)
 have q2 := heap_on q2 hbx
 have q3 := heap_on q3 hbx
 have hH6 := hH.on hbx
 have hM6 := Kd.R_below hM hbx
 have hB6 := vbelow_step hB5 hbx
 have hz6 := hbx.size
 have hglt := hH.low
 clear hbx hH hM hB5
 generalize hxb : w5.heap.size = xb at u1 hz6 ⊢
 generalize w5.alloc (.cells #[.slice (some ⟨gl, 0, none⟩) l0.length cv, .slice A2 l1.length d2] 25) = w6 at u1 q2 q3 hH6 hM6 hB6 hz6 ⊢
 obtain ⟨g0, g1, g2, _⟩ := blk3 q2
 obtain ⟨x0, x1, _⟩ := blk2 u1
 obtain ⟨A, c, z0, z1, z2, z3, z4, z5, _, hcc, hC⟩ := hH6.rd.cells hx
 obtain ⟨cur6, hcur6, _⟩ := id hH6.rd
 obtain ⟨i0, hi0_, hz0, hz1, hz2⟩ := info_parts infoI3
 have hcu := cut_from (P := Try.prog) 48 3 .i64 Try.underlying48 hi0_ 1 hz1 A y.f3.length c 1 (by omega) (by omega)
 have hdl : y.f3.length - (1 : Int).toNat = (y.f3.drop 1).length := by rw [List.length_drop]; rfl
 have hC1 := Kd.C_drop (m := 1) (hC w6 (K3.rfl' w6)) hne hcc
 rw [hdl] at hcu
 obtain ⟨A', hA'⟩ : ∃ A', A' = (if c = 1 then A else A.map (·.add (1 * 1))) := ⟨_, rfl⟩
 obtain ⟨c', hc'⟩ : ∃ c', c' = c - 1 := ⟨_, rfl⟩
 rw [show (if c = 1 then A else A.map (·.add (1 * (Kd.int .i64).sz))) = A' from hA'.symm] at hC1
 replace hcu : ∀ W : World, (Instr.slice 48 (.slice A y.f3.length c) (some (.int .i64 1)) none none).run Try.prog W = .ok (.slice A' (y.f3.drop 1).length c') W := by
  rw [hA', hc']
  exact hcu
 have hlf : (y.f3.drop 1).length ≤ 1000000 := by rw [List.length_drop]; omega
 generalize hf' : y.f3.drop 1 = f' at hC1 hcu hlf
 have hf9h := Lib.hid hf'
 clear hA' hc' hf' hdl hz0 hz1 hz2 hi0_ hC
 refine wp_mono (rpub_r10 xb (w.heap.size + 1) gl l0.length cv c i 0 c' A A' y.f3 f' _ _ _ _ _ _ _ _ _ _ _ _ _ _ _ _ _ _ _ _ _ _ _ _ _ _ _ _ _ _ _ _ _ _ _ _ _ _ _ _ _ _ _ _ _ _ _ _ _ _ _ _ _ _ _ _ _ _ _ w6 _ (by rfl) x0 g0 z3 hi0 hi1 hcu hC1 hlf (fun wc hb => frozen_in (heap_on hcur6 hb))) ?_
 intro e a W' h_
 obtain ⟨rfl, s30, s31, s32, s33, s34, s35, s36, s37, s38, s39, s40, s41, s42, s43, s44, s45, Av, cv', wc, rfl, rfl, hR9, hb9⟩ := NoPanic.imp _ _ _ h_
 clear h_ hcu hC1
 have hR9' := R3_K3 hR9
 have rd := ((hH6.rd).on hb9).put3 hx hR9'.2.1 hR9'.2.2
 have hcur := heap_on hcur6 hb9
 have hM9 := Kd.R_set (Kd.R_below hM6 hb9) hcur (by decide) (i * 6 + 3) (.slice Av f'.length cv')
 have q2 := blk_far (heap_on q2 hb9) (p := ⟨gl, i * 6 + 3, none⟩) (typed_ne (heap_on q2 hb9) hcur (by decide)) (.slice Av f'.length cv')
 have q3 := blk_far (heap_on q3 hb9) (p := ⟨gl, i * 6 + 3, none⟩) (typed_ne (heap_on q3 hb9) hcur (by decide)) (.slice Av f'.length cv')
 have u1 := blk_far (heap_on u1 hb9) (p := ⟨gl, i * 6 + 3, none⟩) (typed_ne (heap_on u1 hb9) hcur (by decide)) (.slice Av f'.length cv')
 have hB9 := vbelow_set (p := ⟨gl, i * 6 + 3, none⟩) (v := .slice Av f'.length cv') (vbelow_step hB6 hb9) (by show w.heap.size ≤ gl; omega)
 have hz9 : w6.heap.size ≤ (wc.setCell ⟨gl, i * 6 + 3, none⟩ (.slice Av f'.length cv')).heap.size := by have := hb9.size; simp [World.setCell]; exact this
 clear hR9 hR9' hb9 hcur hcur6 hH6 hM6 hB6 x0 x1 g0 g1 g2 z0 z1 z2 z3 z4 z5
 generalize wc.setCell ⟨gl, i * 6 + 3, none⟩ (.slice Av f'.length cv') = w7 at rd hM9 q2 q3 u1 hB9 hz9 ⊢
 obtain ⟨g0, g1, g2, _⟩ := blk3 q2
 obtain ⟨x0, x1, _⟩ := blk2 u1
 have hBW : Below w4.heap.size w7 w7 := Below.refl _ _
 go_wp2_with ((with_reducible refine gate_builtin (b := .append) (xs := #[.tmp 47, .tmp 56]) rfl ?_); at_builtin; refine Kd.R_append k40 (w0 := w7) w4.heap.size rfl (.tmp 47) (.tmp 56) 23 40 (.agg #[(.int .i64 0), (.int .i64 0), (.int .i64 0), (.int .u64 0)]) 32 rfl Try.underlying23 info40 rfl (by decide) (by decide) (.slice A2 l1.length d2) l1 (⟨(i : Int), ep, n, x⟩ : S40) [.int .i64 (i : Int), .int .i64 ep, .int .i64 n, .int .u64 x] (fun _ => True) (fun _ => False) rfl rfl (k40_mkM _ _ _ (⟨(i : Int), ep, n, x⟩ : S40)) (fun _ hk => hk.elim) (fun _ _ => trivial) hM9 hBW (by omega) (by omega) ?_; intro v9 w8 hM8 hb8 hg8 hat8; obtain ⟨A9, c9, e9⟩ := Kd.R_slice hM8; subst e9; obtain ⟨l9, hl9⟩ : ∃ l9, l9 = l1 ++ [(⟨(i : Int), ep, n, x⟩ : S40)] := ⟨_, rfl⟩; rw [← hl9] at hM8 ⊢; have hl9h := Lib.hid hl9; clear hl9; have kp := fun k cells t ht hk => R40_keep (Wl := w7) (wc := w8) (k := k) (cells := cells) (t := t) hM9 (Below.refl _ _) hg8 ht hk; have q3 := (kp _ _ 25 (by decide) q3).trans q3; have u1 := (kp _ _ 25 (by decide) u1).trans u1; obtain ⟨cur7, hcur7, _⟩ := id rd; have rd8 := rd.move (kp _ _ 61 (by decide) hcur7) (fun k cells hk => kp k cells 3 (by decide) hk); have x0_ := (cell_in (o := 0) u1).trans rfl; have x1_ := (cell_in (o := 1) u1).trans rfl; have xF1 := frozen_in (o := 1) u1; have b0 := (cell_in (o := 0) q3).trans rfl; have b1 := (cell_in (o := 1) q3).trans rfl; have bF0 := frozen_in (o := 0) q3; have bF1 := frozen_in (o := 1) q3)
 have hB10 : Below w.heap.size w w8 := hB9.trans (hb8.mono (by omega))
 have q3' := blk_far q3 (p := ⟨xb, 1, none⟩) (by show w.heap.size + 1 + 1 ≠ xb; omega) (.slice A9 l9.length c9)
 refine bodyPost_ret (results_ct rfl _ _ (w.heap.size + 1 + 1) 25 #[.slice (some ⟨gl, 0, none⟩) l0.length cv, .slice A9 l9.length c9] (0, 0) _ rfl (put2 q3' _ _) Try.underlying25 rfl (by kernel_rfl)) rfl ?_
 refine ⟨_, rfl, ⟨some ⟨gl, 0, none⟩, cv, A9, c9, by rw [List.length_set, ← hl9h.out], by rw [List.length_set]; exact hcv, by rw [← hl9h.out]; exact (Kd.R_reads' hM8).2.1, fun W' hk' => (fun hk2 => ⟨by rw [hf9h.out]; exact (rd8.KQ hk2).C (by rw [List.length_set]; omega), by rw [← hl9h.out]; exact (Kd.R_reads' (R40_KQ hM8 hk2)).2.2⟩) (KQ.trans (KB.kq (bs := [xb, w.heap.size + 1 + 1]) (w := w8) (by repeat (first | (with_reducible exact KB.refl _ _) | (with_reducible refine KB.alloc ?_ _) | (with_reducible refine KB.drew ?_) | (with_reducible refine KB.drewN ?_ _) | (with_reducible refine KB.set ?_ (by first | (left; simp; done) | (right; first | exact Nat.le_refl _ | (dsimp only; omega))) _))) (fun b hb => by rcases List.mem_cons.1 hb with e | hb; (subst e; exact ⟨_, _, u1, by decide⟩); (have e := List.mem_singleton.1 hb; subst e; exact ⟨_, _, q3, by decide⟩))) hk')⟩, (by repeat (first | (with_reducible exact hB10) | (with_reducible refine vbelow_alloc ?_ _) | (with_reducible refine vbelow_drew ?_) | (with_reducible refine vbelow_drewN ?_ _) | (with_reducible refine vbelow_set ?_ (by first | exact Nat.le_refl _ | (dsimp only; omega) | omega))))⟩
end Go.Proofs.Ytcifbemppbegbaa.Q
