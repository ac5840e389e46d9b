/- Layer 10: what Publish calls on a queue of its own. -/
import Derived.Test.YtcifbemppbegbaaA19
import Derived.Test.YtcifbemppbegbaaQx8
import Derived.Test.YtcifbemppbegbaaA14
namespace Go.Proofs.Ytcifbemppbegbaa.Q
open Go.RowKit Go.Proofs.YtcifbemppbegbaaW.PrintWords Go.Proofs.YtcifbemppbegbaaW.PrintMore Go.Proofs.YtcifbemppbegbaaW.PrintLast
set_option linter.unusedVariables false
set_option linter.unusedSimpArgs false
set_option maxRecDepth 100000 in
set_option maxHeartbeats 4000000 in
theorem publish_less {B p gl cv gm i bc bx k : Nat} {n ep x pl : Int} {w : World} {l0 : List S61} {l1 : List S40} {y : S61} (h : Mine B w p gl cv gm l0 l1) (hBw : B ≤ w.heap.size) (hc : w.heap[bc]? = some (.cells #[.int .i64 (i : Int), .int .i64 n, .int .i64 ep] 27 (0, 0))) (hb : w.heap[bx]? = some (.cells #[.int .u64 x] 28 (0, 0))) (hx : l0[i]? = some y) (hpl : queue_plain_place.f k l0 l1 (i : Int) n ep = some pl) (hn0 : l0.length ≤ 10000) (hn1 : l1.length ≤ 1000) (hl : pl < 0) : Calls Try.prog 33 #[.pointer (some ⟨p, 0, none⟩), .int .i64 (i : Int), .pointer (some ⟨bc, 0, none⟩), .pointer (some ⟨bx, 0, none⟩)] w fun e w' => e = .returned (.int .i64 102) ∧ Below w.heap.size w w' := by
  have t1 : decide (pl < 0) = true := decide_eq_true hl
  have hi : i < l0.length := (List.getElem?_eq_some_iff.1 hx).1
  have hi0 : (0 : Int) ≤ (i : Int) := by omega
  have hi1 : (i : Int) < (l0.length : Int) := by omega
  have hp0 := h.p0
  have hp1 := h.p1
  obtain ⟨g0, g1, g2, _⟩ := blk3 hc
  have x0 : w.cell? ⟨bx, 0, none⟩ = some (.int .u64 x) := (cell_in hb).trans rfl
  have hC0 := h.lanes.rd.C (by omega)
  have hC1 := (Kd.R_reads' h.msgs).2.2
  have hcap := Lib.hid h.cap
  have hh := Lib.hid h
  have hmx : Try.prog.follows .mixedOrders = true := by kernel_rfl
  clear h
  go_enter Try.func33, Try.ntmps33
  go_wp2_with fail
  go_region_with (go_at_call 34; refine (queue_plain_place.calls k _ cv l0 _ l1.length l1 (i : Int) n ep pl _ (Kd.C_drew hC0) hcap.out (Kd.C_drew hC1) (Nat.le_refl _) hpl).mono ?_; rintro e w3 ⟨rfl, hb3⟩)
  all_goals go_wp2_with fail
  all_goals go_ret
  all_goals exact ⟨rfl, vbelow_step (vbelow_drew (Below.refl _ _)) hb3⟩
set_option maxRecDepth 100000 in
set_option maxHeartbeats 4000000 in
theorem publish_more {B p gl cv gm i bc bx k : Nat} {n ep x pl : Int} {w : World} {l0 : List S61} {l1 : List S40} {y : S61} (h : Mine B w p gl cv gm l0 l1) (hBw : B ≤ w.heap.size) (hc : w.heap[bc]? = some (.cells #[.int .i64 (i : Int), .int .i64 n, .int .i64 ep] 27 (0, 0))) (hb : w.heap[bx]? = some (.cells #[.int .u64 x] 28 (0, 0))) (hx : l0[i]? = some y) (hpl : queue_plain_place.f k l0 l1 (i : Int) n ep = some pl) (hn0 : l0.length ≤ 10000) (hn1 : l1.length ≤ 1000) (hl : 0 < pl) : Calls Try.prog 33 #[.pointer (some ⟨p, 0, none⟩), .int .i64 (i : Int), .pointer (some ⟨bc, 0, none⟩), .pointer (some ⟨bx, 0, none⟩)] w fun e w' => e = .returned (.int .i64 103) ∧ Below w.heap.size w w' := by
  have t1 : decide (pl < 0) = false := decide_eq_false (by omega)
  have t2 : decide (0 < pl) = true := decide_eq_true hl
  have t3 : decide (pl > 0) = true := decide_eq_true hl
  have hi : i < l0.length := (List.getElem?_eq_some_iff.1 hx).1
  have hi0 : (0 : Int) ≤ (i : Int) := by omega
  have hi1 : (i : Int) < (l0.length : Int) := by omega
  have hp0 := h.p0
  have hp1 := h.p1
  obtain ⟨g0, g1, g2, _⟩ := blk3 hc
  have x0 : w.cell? ⟨bx, 0, none⟩ = some (.int .u64 x) := (cell_in hb).trans rfl
  have hC0 := h.lanes.rd.C (by omega)
  have hC1 := (Kd.R_reads' h.msgs).2.2
  have hcap := Lib.hid h.cap
  have hh := Lib.hid h
  have hmx : Try.prog.follows .mixedOrders = true := by kernel_rfl
  clear h
  go_enter Try.func33, Try.ntmps33
  go_wp2_with fail
  go_region_with (go_at_call 34; refine (queue_plain_place.calls k _ cv l0 _ l1.length l1 (i : Int) n ep pl _ (Kd.C_drew hC0) hcap.out (Kd.C_drew hC1) (Nat.le_refl _) hpl).mono ?_; rintro e w3 ⟨rfl, hb3⟩)
  all_goals go_wp2_with fail
  all_goals go_ret
  all_goals exact ⟨rfl, vbelow_step (vbelow_drew (Below.refl _ _)) hb3⟩
end Go.Proofs.Ytcifbemppbegbaa.Q

/- Layer 10: Publish: a message appended. -/
namespace Go.Proofs.Ytcifbemppbegbaa.Q
open Go.RowKit Go.Proofs.YtcifbemppbegbaaW.PrintWords Go.Proofs.YtcifbemppbegbaaW.PrintMore Go.Proofs.YtcifbemppbegbaaW.PrintLast
set_option linter.unusedVariables false
set_option linter.unusedSimpArgs false
theorem reps_one40 (w : World) (base : Nat) (ok : Nat → Prop) (x : S40) : Reps (k40.M w base ok) k40.sz [x] [.int .i64 x.f0, .int .i64 x.f1, .int .i64 x.f2, .int .u64 x.f3] := Reps.snoc (Reps.none _ _) (k40_mkM w base ok x) rfl
def pub.T8 : Bool × List (List Nat × List Nat) := (true, [([], []), ([], []), ([1], [1]), ([2], [2]), ([3], [3]), ([4], [4]), ([], []), ([], []), ([7], [7]), ([], []), ([9], [9]), ([], []), ([6, 8, 10, 11], [6, 8, 10, 11]), ([12], [12]), ([5, 13], [5, 13]), ([0, 0, 1, 2, 3, 4, 5, 6, 7, 8, 9, 10, 11, 12, 13, 14], [0]), ([15, 0, 1, 2, 3, 4, 5, 6, 7, 8, 9, 10, 11, 12, 13, 14], [15]), ([16, 0, 1, 2, 3, 4, 5, 6, 7, 8, 9, 10, 11, 12, 13, 14], [16]), ([17, 14, 14, 0, 1, 2, 3, 4, 5, 6, 7, 8, 9, 10, 11, 12, 13, 14], [14, 17])])
def pub.B8 : List Nat := [0, 0, 2, 6, 14, 30, 0, 0, 128, 0, 512, 0, 4032, 8128, 16382, 32767, 65535, 131071, 262143]
theorem pub.tab8 : rtab .any (opsOf Try.f33 8) = pub.T8 := by kernel_rfl
theorem pub.bits8 : waitsOk pub.T8.2 pub.B8 = true := by kernel_rfl
set_option maxRecDepth 100000 in
set_option maxHeartbeats 8000000 in
theorem pub_r8 (B p gm bc bx : Nat) (i n ep x : Int) (l1 : List S40) (ds : List Deferred) (t4 t5 t6 t7 t8 t9 t10 t11 t12 t13 t14 t15 t16 t17 t18 t19 t20 t21 t22 t23 t24 t25 t26 t27 t28 t29 t30 t31 t32 t33 t34 t35 t36 t37 t38 t39 t40 t41 t42 t43 t44 t45 t46 t47 t48 t49 t50 t51 t52 t53 t54 t55 t56 t57 t58 t59 t60 t61 t62 : Value) (w : World) (ops : Array Oper) (hops : opsOf Try.f33 8 = ops) (hU : w.cell? ⟨p, 1, none⟩ = some (.slice (some ⟨gm, 0, none⟩) l1.length l1.length)) (hN : w.cell? ⟨bc, 1, none⟩ = some (.int .i64 n)) (hE : w.cell? ⟨bc, 2, none⟩ = some (.int .i64 ep)) (hX : w.cell? ⟨bx, 0, none⟩ = some (.int .u64 x)) (hR : k40.R 40 w B (fun _ => True) (.slice (some ⟨gm, 0, none⟩) l1.length l1.length) l1) (hBw : B ≤ w.heap.size) (hb3 : l1.length ≤ 1000)
    (hF : ∀ Wl wc : World, Below w.heap.size w Wl → Wl.grownBy wc (Value.slice (some ⟨gm, 0, none⟩) l1.length l1.length).ownBlock → wc.frozen? ⟨p, 1, none⟩ = false)
    (hC : ∀ Wl wc : World, Below w.heap.size w Wl → Wl.grownBy wc (Value.slice (some ⟨gm, 0, none⟩) l1.length l1.length).ownBlock → wc.cell? ⟨p, 1, none⟩ = some (.slice (some ⟨gm, 0, none⟩) l1.length l1.length) ∧ wc.cell? ⟨bc, 1, none⟩ = some (.int .i64 n) ∧ wc.cell? ⟨bc, 2, none⟩ = some (.int .i64 ep) ∧ wc.cell? ⟨bx, 0, none⟩ = some (.int .u64 x)) :
    (Code.region 8 ops true).wp Try.prog (NoPanic fun e a w' => e = .normal ∧ ∃ vl Av cv Wl wc, a = { tmps := #[.pointer (some ⟨p, 0, none⟩), .int .i64 i, .pointer (some ⟨bc, 0, none⟩), .pointer (some ⟨bx, 0, none⟩), t4, t5, t6, t7, t8, t9, t10, t11, t12, t13, t14, t15, t16, t17, t18, t19, t20, t21, t22, t23, t24, t25, t26, t27, t28, t29, t30, t31, t32, t33, t34, t35, t36, t37, t38, t39, t40, t41, t42, t43, t44, .pointer (some ⟨p, 0, none⟩), .pointer (some ⟨p, 0, none⟩), .pointer (some ⟨p, 0, none⟩), .pointer (some ⟨p, 0, none⟩), .pointer (some ⟨p, 1, none⟩), .slice (some ⟨gm, 0, none⟩) l1.length l1.length, .int .i64 i, .pointer (some ⟨bc, 1, none⟩), .int .i64 n, .pointer (some ⟨bc, 2, none⟩), .int .i64 ep, .int .u64 x, .agg #[.int .i64 i, .int .i64 ep, .int .i64 n, .int .u64 x], vl, .slice Av (l1 ++ [(⟨i, ep, n, x⟩ : S40)]).length cv, .pointer (some ⟨p, 0, none⟩), .pointer (some ⟨p, 0, none⟩), .pointer (some ⟨p, 1, none⟩)], defers := ds } ∧ w' = wc.setCell ⟨p, 1, none⟩ (.slice Av (l1 ++ [(⟨i, ep, n, x⟩ : S40)]).length cv) ∧ k40.R 40 wc B (fun _ => True) (.slice Av (l1 ++ [(⟨i, ep, n, x⟩ : S40)]).length cv) (l1 ++ [(⟨i, ep, n, x⟩ : S40)]) ∧ Below w.heap.size w Wl ∧ Wl.grownBy wc (Value.slice (some ⟨gm, 0, none⟩) l1.length l1.length).ownBlock ∧ Below B w wc) { tmps := #[.pointer (some ⟨p, 0, none⟩), .int .i64 i, .pointer (some ⟨bc, 0, none⟩), .pointer (some ⟨bx, 0, none⟩), t4, t5, t6, t7, t8, t9, t10, t11, t12, t13, t14, t15, t16, t17, t18, t19, t20, t21, t22, t23, t24, t25, t26, t27, t28, t29, t30, t31, t32, t33, t34, t35, t36, t37, t38, t39, t40, t41, t42, t43, t44, t45, t46, t47, t48, t49, t50, t51, t52, t53, t54, t55, t56, t57, t58, t59, t60, t61, t62], defers := ds } w := by
    simp [opsOf, opsIn, Try.f33] at hops
    subst hops
    have hS : Below w.heap.size w w.drew := vbelow_drew (Below.refl _ _)
    have hR0 := Kd.R_drew hR
    refine start_ (n := 19) (S := fun w' => w'.cell? ⟨p, 1, none⟩ = some (.slice (some ⟨gm, 0, none⟩) l1.length l1.length) ∧ w'.cell? ⟨bc, 1, none⟩ = some (.int .i64 n) ∧ w'.cell? ⟨bc, 2, none⟩ = some (.int .i64 ep) ∧ w'.cell? ⟨bx, 0, none⟩ = some (.int .u64 x)) (ds := [18]) #[false, false, false, false, false, false, false, false, false, false, false, false, false, false, false, false, false, false, false] (by kernel_rfl) rfl rfl ⟨hU, hN, hE, hX⟩ (fun hHeld => ?_)
    refine with_tabW pub.tab8 pub.bits8 (fun HT_ HW_ => ?_)
    refine pure_ (i := 0) (N := some 45) (v := ?_) (a' := ?_) #[true, false, false, false, false, false, false, false, false, false, false, false, false, false, false, false, false, false, false] rfl rfl (any_of HT_.out (by kernel_rfl)) (fun _ _ _ h => h) (Or.inl ⟨by rfl, ?_⟩) ?_ ?_
    rotate_left
    · intro w'
      go_simp
      with_reducible rfl
    rotate_left
    · simp only [Act.put, List.setIfInBounds_toArray, List.set_cons_zero, List.set_cons_succ]
      rfl
    refine pure_ (i := 1) (N := some 46) (v := ?_) (a' := ?_) #[true, true, false, false, false, false, false, false, false, false, false, false, false, false, false, false, false, false, false] rfl rfl (any_of HT_.out (by kernel_rfl)) (fun _ _ _ h => h) (Or.inl ⟨by rfl, ?_⟩) ?_ ?_
    rotate_left
    · intro w'
      go_simp
      with_reducible rfl
    rotate_left
    · simp only [Act.put, List.setIfInBounds_toArray, List.set_cons_zero, List.set_cons_succ]
      rfl
    refine pure_ (i := 2) (N := some 47) (v := ?_) (a' := ?_) #[true, true, true, false, false, false, false, false, false, false, false, false, false, false, false, false, false, false, false] rfl rfl (any_of HT_.out (by kernel_rfl)) (fun _ _ _ h => h) (Or.inl ⟨by rfl, ?_⟩) ?_ ?_
    rotate_left
    · intro w'
      go_simp
      with_reducible rfl
    rotate_left
    · simp only [Act.put, List.setIfInBounds_toArray, List.set_cons_zero, List.set_cons_succ]
      rfl
    refine pure_ (i := 3) (N := some 48) (v := ?_) (a' := ?_) #[true, true, true, true, false, false, false, false, false, false, false, false, false, false, false, false, false, false, false] rfl rfl (any_of HT_.out (by kernel_rfl)) (fun _ _ _ h => h) (Or.inl ⟨by rfl, ?_⟩) ?_ ?_
    rotate_left
    · intro w'
      go_simp
      with_reducible rfl
    rotate_left
    · simp only [Act.put, List.setIfInBounds_toArray, List.set_cons_zero, List.set_cons_succ]
      rfl
    refine pure_ (i := 4) (N := some 49) (v := ?_) (a' := ?_) #[true, true, true, true, true, false, false, false, false, false, false, false, false, false, false, false, false, false, false] rfl rfl (any_of HT_.out (by kernel_rfl)) (fun _ _ _ h => h) (Or.inl ⟨by rfl, ?_⟩) ?_ ?_
    rotate_left
    · intro w'
      go_simp
      with_reducible rfl
    rotate_left
    · simp only [Act.put, List.setIfInBounds_toArray, List.set_cons_zero, List.set_cons_succ]
      rfl
    refine pure_ (i := 6) (N := some 51) (v := ?_) (a' := ?_) #[true, true, true, true, true, false, true, false, false, false, false, false, false, false, false, false, false, false, false] rfl rfl (any_of HT_.out (by kernel_rfl)) (fun _ _ _ h => h) (Or.inl ⟨by rfl, ?_⟩) ?_ ?_
    rotate_left
    · intro w'
      go_simp
      with_reducible rfl
    rotate_left
    · simp only [Act.put, List.setIfInBounds_toArray, List.set_cons_zero, List.set_cons_succ]
      rfl
    refine pure_ (i := 7) (N := some 52) (v := ?_) (a' := ?_) #[true, true, true, true, true, false, true, true, false, false, false, false, false, false, false, false, false, false, false] rfl rfl (any_of HT_.out (by kernel_rfl)) (fun _ _ _ h => h) (Or.inl ⟨by rfl, ?_⟩) ?_ ?_
    rotate_left
    · intro w'
      go_simp
      with_reducible rfl
    rotate_left
    · simp only [Act.put, List.setIfInBounds_toArray, List.set_cons_zero, List.set_cons_succ]
      rfl
    refine pure_ (i := 9) (N := some 54) (v := ?_) (a' := ?_) #[true, true, true, true, true, false, true, true, false, true, false, false, false, false, false, false, false, false, false] rfl rfl (any_of HT_.out (by kernel_rfl)) (fun _ _ _ h => h) (Or.inl ⟨by rfl, ?_⟩) ?_ ?_
    rotate_left
    · intro w'
      go_simp
      with_reducible rfl
    rotate_left
    · simp only [Act.put, List.setIfInBounds_toArray, List.set_cons_zero, List.set_cons_succ]
      rfl
    refine take_ (i := 5) (N := some 50) (v := ?_) (a' := ?_) #[true, true, true, true, true, true, true, true, false, true, false, false, false, false, false, false, false, false, false] rfl rfl (take_ofW HT_.out HW_.out (by kernel_rfl)) (fun _ _ _ h => h) (Or.inl ⟨by rfl, ?_⟩) hHeld ?_ ?_
    rotate_left
    · rintro w' ⟨s0, s1, s2, s3⟩
      go_simp
      with_reducible rfl
    rotate_left
    · simp only [Act.put, List.setIfInBounds_toArray, List.set_cons_zero, List.set_cons_succ]
      rfl
    refine take_ (i := 8) (N := some 53) (v := ?_) (a' := ?_) #[true, true, true, true, true, true, true, true, true, true, false, false, false, false, false, false, false, false, false] rfl rfl (take_ofW HT_.out HW_.out (by kernel_rfl)) (fun _ _ _ h => h) (Or.inl ⟨by rfl, ?_⟩) hHeld ?_ ?_
    rotate_left
    · rintro w' ⟨s0, s1, s2, s3⟩
      go_simp
      with_reducible rfl
    rotate_left
    · simp only [Act.put, List.setIfInBounds_toArray, List.set_cons_zero, List.set_cons_succ]
      rfl
    refine take_ (i := 10) (N := some 55) (v := ?_) (a' := ?_) #[true, true, true, true, true, true, true, true, true, true, true, false, false, false, false, false, false, false, false] rfl rfl (take_ofW HT_.out HW_.out (by kernel_rfl)) (fun _ _ _ h => h) (Or.inl ⟨by rfl, ?_⟩) hHeld ?_ ?_
    rotate_left
    · rintro w' ⟨s0, s1, s2, s3⟩
      go_simp
      with_reducible rfl
    rotate_left
    · simp only [Act.put, List.setIfInBounds_toArray, List.set_cons_zero, List.set_cons_succ]
      rfl
    refine take_ (i := 11) (N := some 56) (v := ?_) (a' := ?_) #[true, true, true, true, true, true, true, true, true, true, true, true, false, false, false, false, false, false, false] rfl rfl (take_ofW HT_.out HW_.out (by kernel_rfl)) (fun _ _ _ h => h) (Or.inl ⟨by rfl, ?_⟩) hHeld ?_ ?_
    rotate_left
    · rintro w' ⟨s0, s1, s2, s3⟩
      go_simp
      with_reducible rfl
    rotate_left
    · simp only [Act.put, List.setIfInBounds_toArray, List.set_cons_zero, List.set_cons_succ]
      rfl
    refine pure_ (i := 12) (N := some 57) (v := ?_) (a' := ?_) #[true, true, true, true, true, true, true, true, true, true, true, true, true, false, false, false, false, false, false] rfl rfl (any_of HT_.out (by kernel_rfl)) (fun _ _ _ h => h) (Or.inl ⟨by rfl, ?_⟩) ?_ ?_
    rotate_left
    · intro w'
      go_simp
      with_reducible rfl
    rotate_left
    · simp only [Act.put, List.setIfInBounds_toArray, List.set_cons_zero, List.set_cons_succ]
      rfl
    clear hU hN hE hX
    generalize w.drew = W0 at hS hR0 ⊢ hHeld
    have hB0 : Below B w W0 := hS.mono hBw
    refine one_ (i := 13) (N := some 58) #[true, true, true, true, true, true, true, true, true, true, true, true, true, true, false, false, false, false, false] rfl rfl (one_of HT_.out (by kernel_rfl)) (by decide) (fun K hK => ?_)
    refine Kd.R_lit_step k40 (w0 := w) B 40 ?hg (N := 58) ?hd (xs := ([(⟨i, ep, n, x⟩ : S40)] : List S40)) (inner := [.int .i64 i, .int .i64 ep, .int .i64 n, .int .u64 x]) (ok := fun _ => True) (okp := fun _ => True) ?hr ?hp (fun _ hk => hk) trivial hB0 (Nat.le_trans hBw hS.size) (by simp) ?_; (case hd => rfl); (case hg => rfl); (case hr => first | (go_simp; done) | (go_simp; rfl)); (case hp => exact reps_one40 _ _ _ (⟨i, ep, n, x⟩ : S40))
    intro vl Wl hl hBl hgl_ hal
    have hWl : Below W0.heap.size W0 Wl := ⟨hgl_.os, hgl_.tape, hgl_.output, hgl_.size, fun k hk => hgl_.block k hk (by simp)⟩
    have hSl := vbelow_step hS hWl
    have hRl := Kd.R_below hR0 hWl
    obtain ⟨Al, cl, el⟩ := Kd.R_slice hl
    subst el
    refine hK.out _ _ ⟨vcell hWl hHeld.1, vcell hWl hHeld.2.1, vcell hWl hHeld.2.2.1, vcell hWl hHeld.2.2.2⟩ (fun hHeld => ?_)
    clear hK K hgl_ hal
    refine norm_ (a' := ?_) ?_ ?_
    rotate_left
    · show Act.put _ (some 58) _ = _
      simp only [Act.put, List.setIfInBounds_toArray, List.set_cons_zero, List.set_cons_succ]
      rfl
    refine one_ (i := 14) (N := some 59) #[true, true, true, true, true, true, true, true, true, true, true, true, true, true, true, false, false, false, false] rfl rfl (one_of HT_.out (by kernel_rfl)) (by decide) (fun K hK => ?_)
    refine Kd.R_append_rows_step k40 (w0 := w) B (by rfl) (.tmp 50) (.tmp 58) 23 40 (.agg #[(.int .i64 0), (.int .i64 0), (.int .i64 0), (.int .u64 0)]) 32 rfl Try.underlying23 info40 rfl (by decide) (by omega) (.slice (some ⟨gm, 0, none⟩) l1.length l1.length) l1 [(⟨i, ep, n, x⟩ : S40)] _ _ _ (fun _ => True) (fun _ => False) rfl rfl ?aO (Kd.R_reads' hl).2.2 (fun _ _ h => k40_flat h) (fun _ h => h.elim) (fun _ _ => trivial) ?aB ?aS ?aL ?_; (case aB => exact hBl); (case aO => exact hRl); (case aS => exact Nat.le_trans hBw hBl.size); (case aL => simp only [List.length_cons, List.length_nil]; omega)
    intro va wc hRa hBa hga hata
    obtain ⟨Av, cv, ea⟩ := Kd.R_slice hRa
    subst ea
    have hF1 := hF Wl wc hSl hga
    have hC1 := hC Wl wc hSl hga
    refine hK.out _ _ hC1 (fun hHeld => ?_)
    clear hK K
    refine norm_ (a' := ?_) ?_ ?_
    rotate_left
    · show Act.put _ (some 59) _ = _
      simp only [Act.put, List.setIfInBounds_toArray, List.set_cons_zero, List.set_cons_succ]
      rfl
    have hx1 := hHeld.1
    refine pure_ (i := 15) (N := some 60) (v := ?_) (a' := ?_) #[true, true, true, true, true, true, true, true, true, true, true, true, true, true, true, true, false, false, false] rfl rfl (any_of HT_.out (by kernel_rfl)) (fun _ _ _ h => h) (Or.inl ⟨by rfl, ?_⟩) ?_ ?_
    rotate_left
    · intro w'
      go_simp
      with_reducible rfl
    rotate_left
    · simp only [Act.put, List.setIfInBounds_toArray, List.set_cons_zero, List.set_cons_succ]
      rfl
    refine pure_ (i := 16) (N := some 61) (v := ?_) (a' := ?_) #[true, true, true, true, true, true, true, true, true, true, true, true, true, true, true, true, true, false, false] rfl rfl (any_of HT_.out (by kernel_rfl)) (fun _ _ _ h => h) (Or.inl ⟨by rfl, ?_⟩) ?_ ?_
    rotate_left
    · intro w'
      go_simp
      with_reducible rfl
    rotate_left
    · simp only [Act.put, List.setIfInBounds_toArray, List.set_cons_zero, List.set_cons_succ]
      rfl
    refine pure_ (i := 17) (N := some 62) (v := ?_) (a' := ?_) #[true, true, true, true, true, true, true, true, true, true, true, true, true, true, true, true, true, true, false] rfl rfl (any_of HT_.out (by kernel_rfl)) (fun _ _ _ h => h) (Or.inl ⟨by rfl, ?_⟩) ?_ ?_
    rotate_left
    · intro w'
      go_simp
      with_reducible rfl
    rotate_left
    · simp only [Act.put, List.setIfInBounds_toArray, List.set_cons_zero, List.set_cons_succ]
      rfl
    refine last_ (i := 18) (N := none) #[true, true, true, true, true, true, true, true, true, true, true, true, true, true, true, true, true, true, true] rfl rfl (one_of HT_.out (by kernel_rfl)) (by decide) (fun K hK => ?_)
    refine skip_ (w1 := ?_) (by rfl) rfl ?_ ?_
    rotate_left
    · go_simp
      rfl
    refine hK.out _ _ ?_
    clear hK K
    refine done_ (done_of HT_.out (by kernel_rfl)) ?_
    exact ⟨rfl, _, Av, cv, Wl, wc, rfl, by rw [List.length_append]; rfl, hRa, hSl, hga, hBa⟩
end Go.Proofs.Ytcifbemppbegbaa.Q

/- Layer 10: what Publish calls on a queue of its own, where it may. -/
namespace Go.Proofs.Ytcifbemppbegbaa.Q
open Go.RowKit Go.Proofs.YtcifbemppbegbaaW.PrintWords Go.Proofs.YtcifbemppbegbaaW.PrintMore Go.Proofs.YtcifbemppbegbaaW.PrintLast
set_option linter.unusedVariables false
set_option linter.unusedSimpArgs false
theorem cut_mid3 {P : Program} (t e : TypeId) (kl kh km : IntKind) {i : TypeInfo} (ht : P.underlying t = some (.slice e)) (hi : P.info? e = some i) (size : Nat) (hsz : i.size = size) (A : Option Addr) (n c : Nat) (lo hi' : Int) (h0 : 0 ≤ lo) (h1 : lo ≤ hi') (h2 : hi' ≤ n) (hc : n ≤ c) :
    ∀ W : World, (Instr.slice t (.slice A n c) (some (.int kl lo)) (some (.int kh hi')) (some (.int km hi'))).run P W = .ok (.slice (if hi'.toNat = lo.toNat then A else A.map (·.add (lo.toNat * size))) (hi'.toNat - lo.toNat) (hi'.toNat - lo.toNat)) W := by
  intro W
  have hel : P.elem t = e := by simp [Program.elem, ht]
  have hu : P.underlying t = some (.slice (P.elem t)) := by rw [hel]; exact ht
  rw [run_slice_lhm W t A n c hu kl kh km lo hi' hi' h0 h1 (Int.le_refl _) (by omega), hel]
  simp [sizeOf, typeInfo, hi, hsz, sliced, Result.andThen]
theorem R40_keep {W Wl wc : World} {B : Nat} {v : Value} {l : List S40} (hR : k40.R 40 W B (fun _ => True) v l) (hb : Below W.heap.size W Wl) (hg : Wl.grownBy wc v.ownBlock) (k : Nat) (cells : Array Value) (t : TypeId) (ht : t ≠ 40) (hk : W.heap[k]? = some (.cells cells t (0, 0))) : wc.heap[k]? = W.heap[k]? := by
  have h1 := heap_on hk hb
  refine (hg.block k (Array.getElem?_eq_some_iff.1 h1).1 (fun e => ?_)).trans (h1.trans hk.symm)
  obtain ⟨_, inner, ho, _⟩ := Kd.R_below hR hb
  obtain ⟨cells', hc'⟩ := own_typed ho k e.symm
  rw [h1] at hc'
  injection hc' with hc'
  injection hc' with _ hc'
  exact ht hc'
theorem typed_ne {W : World} {g k t t' : Nat} {cs cs' : Array Value} (hg : W.heap[g]? = some (.cells cs t (0, 0))) (hk : W.heap[k]? = some (.cells cs' t' (0, 0))) (h : t ≠ t') : g ≠ k := fun e => by
  subst e
  rw [hg] at hk
  injection hk with hk
  injection hk with _ hk
  exact h hk
theorem Mine.on {B : Nat} {W W' : World} {p gl cv gm : Nat} {l0 : List S61} {l1 : List S40} (h : Mine B W p gl cv gm l0 l1) (hb : Below W.heap.size W W') : Mine B W' p gl cv gm l0 l1 := ⟨heap_on h.box hb, h.low, h.cap, (h.lanes.on hb).full (Nat.le_refl _), Kd.R_below h.msgs hb⟩
set_option maxRecDepth 100000 in
set_option maxHeartbeats 4000000 in
theorem publish_ok {B p gl cv gm i bc bx k : Nat} {n ep x : Int} {w : World} {l0 : List S61} {l1 : List S40} {y : S61} (h : Mine B w p gl cv gm l0 l1) (hBw : B ≤ w.heap.size) (hc : w.heap[bc]? = some (.cells #[.int .i64 (i : Int), .int .i64 n, .int .i64 ep] 27 (0, 0))) (hb : w.heap[bx]? = some (.cells #[.int .u64 x] 28 (0, 0))) (hx : l0[i]? = some y) (hpl : queue_plain_place.f k l0 l1 (i : Int) n ep = some 0) (hn0 : l0.length ≤ 10000) (hn1 : l1.length ≤ 1000) (hne : 1 ≤ y.f3.length) : Calls Try.prog 33 #[.pointer (some ⟨p, 0, none⟩), .int .i64 (i : Int), .pointer (some ⟨bc, 0, none⟩), .pointer (some ⟨bx, 0, none⟩)] w fun e w' => e = .returned (.int .i64 0) ∧ Below B w w' ∧ BoxOut w' p (l0.set i { y with f3 := y.f3.drop 1 }) (l1 ++ [⟨(i : Int), ep, n, x⟩]) := by
  have t1 : decide ((0 : Int) < 0) = false := rfl
  have hi : i < l0.length := (List.getElem?_eq_some_iff.1 hx).1
  have hi0 : (0 : Int) ≤ (i : Int) := by omega
  have hi1 : (i : Int) < (l0.length : Int) := by omega
  have hp0 := h.p0
  have hp1 := h.p1
  obtain ⟨g0, g1, g2, _⟩ := blk3 hc
  have x0 : w.cell? ⟨bx, 0, none⟩ = some (.int .u64 x) := (cell_in hb).trans rfl
  have hC0 := h.lanes.rd.C (by omega)
  have hC1 := (Kd.R_reads' h.msgs).2.2
  have hcap := Lib.hid h.cap
  have hh := Lib.hid h
  have hmx : Try.prog.follows .mixedOrders = true := by kernel_rfl
  clear h
  go_enter Try.func33, Try.ntmps33
  go_wp2_with fail
  go_cut [7] (fun v7 wx => v7 = .int .i64 0 ∧ Below w.heap.size w wx)
  case first =>
    go_region_with (go_at_call 34; refine (queue_plain_place.calls k _ cv l0 _ l1.length l1 (i : Int) n ep 0 _ (Kd.C_drew hC0) hcap.out (Kd.C_drew hC1) (Nat.le_refl _) hpl).mono ?_; rintro e w3 ⟨rfl, hb3⟩)
    all_goals go_wp2_with fail
    all_goals go_meet
    all_goals exact ⟨rfl, vbelow_step (vbelow_drew (Below.refl _ _)) hb3⟩
  case rest =>
    obtain ⟨rfl, hbx⟩ := hcut
    rename World => wx
    have h2 := hh.out.on hbx
    have hc2 := heap_on hc hbx
    have hb2 := heap_on hb hbx
    have hBx : Below B w wx := hbx.mono hBw
    have hBwx : B ≤ wx.heap.size := Nat.le_trans hBw hbx.size
    clear hh hc hb hp0 hp1 g0 g1 g2 x0 hC0 hC1 hcap hpl
    have hp0 := h2.p0
    obtain ⟨A, c, c0, c1, c2, c3, c4, c5, hF, hcc, hC⟩ := h2.lanes.rd.cells hx
    have hF3 := hF (i * 6 + 3)
    obtain ⟨i0, hi0_, hz0, hz1, hz2⟩ := info_parts infoI3
    have hcu := cut_mid3 (P := Try.prog) 48 3 .i64 .i64 .i64 Try.underlying48 hi0_ 1 hz1 A y.f3.length c 1 (y.f3.length : Int) (by omega) (by omega) (Int.le_refl _) hcc
    have hdl : (y.f3.length : Int).toNat - (1 : Int).toNat = (y.f3.drop 1).length := by rw [List.length_drop, Int.toNat_natCast]; rfl
    have hC1 := C3_K3_drop (m := 1) hC hne (Nat.le_refl _)
    rw [hdl] at hcu
    obtain ⟨A', hA'⟩ : ∃ A', A' = (if y.f3.length = 1 then A else A.map (·.add (1 * 1))) := ⟨_, rfl⟩
    rw [← hA'] at hC1
    replace hcu : ∀ W : World, (Instr.slice 48 (.slice A y.f3.length c) (some (.int .i64 1)) (some (.int .i64 (y.f3.length : Int))) (some (.int .i64 (y.f3.length : Int)))).run Try.prog W = .ok (.slice A' (y.f3.drop 1).length (y.f3.drop 1).length) W := by
      rw [hA']
      exact hcu
    generalize hf' : y.f3.drop 1 = f' at hC1 hcu ⊢
    clear hA' hdl hC hz0 hz1 hz2 hi0_ hF
    go_upto_region 7 with fail
    go_region
    all_goals go_wp2_with fail
    have hgl := h2.lanes.low
    have rd1 := h2.lanes.rd.put3 hx (Nat.le_refl f'.length) hC1
    obtain ⟨cur, hcur, _⟩ := h2.lanes.rd
    have hM1 := Kd.R_set h2.msgs hcur (by decide) (i * 6 + 3) (.slice A' f'.length f'.length)
    have hp1 := blk_far h2.box (p := ⟨gl, i * 6 + 3, none⟩) (typed_ne h2.box hcur (by decide)) (.slice A' f'.length f'.length)
    have hc1 := blk_far hc2 (p := ⟨gl, i * 6 + 3, none⟩) (typed_ne hc2 hcur (by decide)) (.slice A' f'.length f'.length)
    have hb1 := blk_far hb2 (p := ⟨gl, i * 6 + 3, none⟩) (typed_ne hb2 hcur (by decide)) (.slice A' f'.length f'.length)
    have hB1 := hBx.setCell (p := ⟨gl, i * 6 + 3, none⟩) hgl.1 (.slice A' f'.length f'.length)
    have hz1 : B ≤ (wx.setCell ⟨gl, i * 6 + 3, none⟩ (.slice A' f'.length f'.length)).heap.size := Nat.le_trans hBwx (by simp [World.setCell])
    have rd2 := rd1.on (vbelow_drew (Below.refl _ _))
    have hM2 := Kd.R_drew hM1
    have hp2 := blk_drew hp1
    have hc3 := blk_drew hc1
    have hb3 := blk_drew hb1
    have hB2 : Below B w (wx.setCell ⟨gl, i * 6 + 3, none⟩ (.slice A' f'.length f'.length)).drew := hB1.drew
    have hz2 : B ≤ (wx.setCell ⟨gl, i * 6 + 3, none⟩ (.slice A' f'.length f'.length)).drew.heap.size := hz1
    have hcap := h2.cap
    have hlow := h2.low
    clear rd1 hM1 hp1 hc1 hb1 hB1 hz1 hcur h2 hc2 hb2 hp0 c0 c1 c2 c3 c4 c5 hF3 hcc hcu hC1
    generalize (wx.setCell ⟨gl, i * 6 + 3, none⟩ (.slice A' f'.length f'.length)).drew = wy at rd2 hM2 hp2 hc3 hb3 hB2 hz2 ⊢
    obtain ⟨p0, p1, _⟩ := blk2 hp2
    obtain ⟨g0, g1, g2, _⟩ := blk3 hc3
    have x0 : wy.cell? ⟨bx, 0, none⟩ = some (.int .u64 x) := (cell_in hb3).trans rfl
    have kp := fun Wl wc hb hg => R40_keep (Wl := Wl) (wc := wc) hM2 hb hg
    have hpw := fun Wl wc hb hg => (kp Wl wc hb hg p _ 72 (by decide) hp2).trans hp2
    have hcw := fun Wl wc hb hg => (kp Wl wc hb hg bc _ 27 (by decide) hc3).trans hc3
    have hbw := fun Wl wc hb hg => (kp Wl wc hb hg bx _ 28 (by decide) hb3).trans hb3
    refine wp_mono (pub_r8 B p gm bc bx (i : Int) n ep x l1 _ _ _ _ _ _ _ _ _ _ _ _ _ _ _ _ _ _ _ _ _ _ _ _ _ _ _ _ _ _ _ _ _ _ _ _ _ _ _ _ _ _ _ _ _ _ _ _ _ _ _ _ _ _ _ _ _ _ _ _ wy _ (by rfl) p1 g1 g2 x0 hM2 hz2 hn1 (fun Wl wc hb hg => frozen_in (hpw Wl wc hb hg)) (fun Wl wc hb hg => ⟨(blk2 (hpw Wl wc hb hg)).2.1, (blk3 (hcw Wl wc hb hg)).2.1, (blk3 (hcw Wl wc hb hg)).2.2.1, (cell_in (hbw Wl wc hb hg)).trans rfl⟩)) ?_
    intro e a W' h_
    obtain ⟨rfl, vl, Av, cv', Wl, wc, rfl, rfl, hR3, hSl, hg, hB⟩ := NoPanic.imp _ _ _ h_
    clear h_
    have hpc := hpw Wl wc hSl hg
    obtain ⟨cur, hcur, _⟩ := id rd2
    have rd3 := rd2.move (kp Wl wc hSl hg gl cur 61 (by decide) hcur) (fun k cells hk => kp Wl wc hSl hg k cells 3 (by decide) hk)
    have rd4 := rd3.other hpc (by decide) (by decide) 1 (.slice Av (l1 ++ [(⟨i, ep, n, x⟩ : S40)]).length cv')
    have hM4 := Kd.R_set hR3 hpc (by decide) 1 (.slice Av (l1 ++ [(⟨i, ep, n, x⟩ : S40)]).length cv')
    have hp4 := heap_put' (u := .slice Av (l1 ++ [(⟨i, ep, n, x⟩ : S40)]).length cv') (j := 1) hpc
    have hB4 := (hB2.trans hB).setCell (p := ⟨p, 1, none⟩) hlow (.slice Av (l1 ++ [(⟨i, ep, n, x⟩ : S40)]).length cv')
    clear kp hpw hcw hbw hg
    go_wp2_with fail
    go_ret
    refine ⟨rfl, hB4, some ⟨gl, 0, none⟩, cv, Av, cv', ?_, ?_, ?_, ?_⟩
    · rw [hp4, List.length_set]
      rfl
    · rw [List.length_set]
      exact hcap
    · exact (Kd.R_reads' hM4).2.1
    · intro W' hk
      exact ⟨by rw [hf']; exact (rd4.KQ hk).C (by rw [List.length_set]; omega), (Kd.R_reads' (R40_KQ hM4 hk)).2.2⟩
end Go.Proofs.Ytcifbemppbegbaa.Q
