/- Layer 10: Retire: what a lane has not given back. -/
import Derived.Test.YtcifbemppbegbaaA22
namespace Go.Proofs.Ytcifbemppbegbaa.Q
open Go.RowKit Go.Proofs.YtcifbemppbegbaaW.PrintWords Go.Proofs.YtcifbemppbegbaaW.PrintMore Go.Proofs.YtcifbemppbegbaaW.PrintLast
set_option linter.unusedVariables false
set_option linter.unusedSimpArgs false
def ret.T4 : Bool × List (List Nat × List Nat) := (true, [([], []), ([0], [0]), ([1], [1]), ([2], [2]), ([], []), ([4], [4]), ([5], [5]), ([6], [6]), ([3, 7], [3, 7]), ([], []), ([9], [9]), ([10], [10]), ([11], [11]), ([12], [12]), ([8, 13], [8, 13]), ([], []), ([15], [15]), ([16], [16]), ([], []), ([17, 18], [17, 18]), ([14, 19], [14, 19]), ([20], [20]), ([21, 19], [21])])
def ret.B4 : List Nat := [0, 1, 3, 7, 0, 16, 48, 112, 255, 0, 512, 1536, 3584, 7680, 16383, 0, 32768, 98304, 0, 491520, 1048575, 2097151, 4194303]
theorem ret.tab4 : rtab .any (opsOf Try.f38 4) = ret.T4 := by kernel_rfl
theorem ret.bits4 : waitsOk ret.T4.2 ret.B4 = true := by kernel_rfl
set_option maxRecDepth 100000 in
set_option maxHeartbeats 8000000 in
theorem ret_r4 (p gl gm cv c i k : Nat) (A : Option Addr) (mn : Int) (l0 : List S61) (l1 : List S40) (y : S61) (ds : List Deferred) (t2 t3 t4 t5 t7 t8 t9 t10 t11 t12 t13 t14 t15 t16 t17 t18 t19 t20 t21 t22 t23 t24 t25 t26 t27 t28 t29 t30 t31 t32 t33 t34 t35 t36 t37 t38 t39 t40 t41 t42 t43 t44 t45 t46 t47 t48 t49 t50 t51 t52 t53 t54 t55 t56 : Value) (w : World) (ops : Array Oper) (hops : opsOf Try.f38 4 = ops) (h0_ : w.cell? ⟨gl, i * 6, none⟩ = some (.int .i64 y.f0)) (h2_ : w.cell? ⟨gl, i * 6 + 2, none⟩ = some (.int .i64 y.f2)) (h3_ : w.cell? ⟨gl, i * 6 + 3, none⟩ = some (.slice A y.f3.length c)) (hp0 : w.cell? ⟨p, 0, none⟩ = some (.slice (some ⟨gl, 0, none⟩) l0.length cv)) (hp1 : w.cell? ⟨p, 1, none⟩ = some (.slice (some ⟨gm, 0, none⟩) l1.length l1.length)) (hcap : l0.length ≤ cv) (hC0_ : Kd.C k61 w (some ⟨gl, 0, none⟩) l0.length l0) (hC1_ : Kd.C k40 w (some ⟨gm, 0, none⟩) l1.length l1) (hpl : queue_plain_messages.f k l0 l1 (i : Int) = some mn) (e1 : IntKind.i64.wrap (y.f0 - y.f2) = y.f0 - y.f2) (e2 : IntKind.i64.wrap (y.f0 - y.f2 - (y.f3.length : Int)) = y.f0 - y.f2 - (y.f3.length : Int)) (e3 : IntKind.i64.wrap (y.f0 - y.f2 - (y.f3.length : Int) - mn) = y.f0 - y.f2 - (y.f3.length : Int) - mn) :
    (Code.region 4 ops true).wp Try.prog (NoPanic fun e a w' => e = .normal ∧ Below w.heap.size w w' ∧ ∃ s23 s24 s25 s26 s27 s28 s29 s30 s31 s32 s33 s34 s35 s36 s37 s38 s39 s40 s41 s42 s43 s44 : Value, a = { tmps := #[.pointer (some ⟨p, 0, none⟩), .int .i64 (i : Int), t2, t3, t4, t5, .pointer (some ⟨gl, i * 6, none⟩), t7, t8, t9, t10, t11, t12, t13, t14, t15, t16, t17, t18, t19, t20, t21, .bool (y.f0 - y.f2 - (y.f3.length : Int) - mn == 0), s23, s24, s25, s26, s27, s28, s29, s30, s31, s32, s33, s34, s35, s36, s37, s38, s39, s40, s41, s42, s43, s44, t45, t46, t47, t48, t49, t50, t51, t52, t53, t54, t55, t56], defers := ds }) { tmps := #[.pointer (some ⟨p, 0, none⟩), .int .i64 (i : Int), t2, t3, t4, t5, .pointer (some ⟨gl, i * 6, none⟩), t7, t8, t9, t10, t11, t12, t13, t14, t15, t16, t17, t18, t19, t20, t21, t22, t23, t24, t25, t26, t27, t28, t29, t30, t31, t32, t33, t34, t35, t36, t37, t38, t39, t40, t41, t42, t43, t44, t45, t46, t47, t48, t49, t50, t51, t52, t53, t54, t55, t56], defers := ds } w := by
    simp [opsOf, opsIn, Try.f38] at hops
    subst hops
    have hS : Below w.heap.size w w.drew := vbelow_drew (Below.refl _ _)
    have hC0 := Kd.C_drew hC0_
    have hC1 := Kd.C_drew hC1_
    clear hC0_ hC1_
    refine start_ (n := 23) (S := fun w' => w'.cell? ⟨gl, i * 6, none⟩ = some (.int .i64 y.f0) ∧ w'.cell? ⟨gl, i * 6 + 2, none⟩ = some (.int .i64 y.f2) ∧ w'.cell? ⟨gl, i * 6 + 3, none⟩ = some (.slice A y.f3.length c) ∧ w'.cell? ⟨p, 0, none⟩ = some (.slice (some ⟨gl, 0, none⟩) l0.length cv) ∧ w'.cell? ⟨p, 1, none⟩ = some (.slice (some ⟨gm, 0, none⟩) l1.length l1.length)) (ds := []) #[false, false, false, false, false, false, false, false, false, false, false, false, false, false, false, false, false, false, false, false, false, false, false] (by kernel_rfl) rfl rfl ⟨h0_, h2_, h3_, hp0, hp1⟩ (fun hHeld => ?_)
    refine with_tabW ret.tab4 ret.bits4 (fun HT_ HW_ => ?_)
    refine pure_ (i := 0) (N := some 23) (v := ?_) (a' := ?_) #[true, false, false, false, false, false, false, false, false, false, false, false, false, false, false, false, false, false, false, false, false, false, false] rfl rfl (any_of HT_.out (by kernel_rfl)) (fun _ _ _ h => h) (Or.inl ⟨by rfl, ?_⟩) ?_ ?_
    rotate_left
    · intro w'
      go_simp
      with_reducible rfl
    rotate_left
    · simp only [Act.put, List.setIfInBounds_toArray, List.set_cons_zero, List.set_cons_succ]
      rfl
    refine pure_ (i := 1) (N := some 24) (v := ?_) (a' := ?_) #[true, true, false, false, false, false, false, false, false, false, false, false, false, false, false, false, false, false, false, false, false, false, false] rfl rfl (any_of HT_.out (by kernel_rfl)) (fun _ _ _ h => h) (Or.inl ⟨by rfl, ?_⟩) ?_ ?_
    rotate_left
    · intro w'
      go_simp
      with_reducible rfl
    rotate_left
    · simp only [Act.put, List.setIfInBounds_toArray, List.set_cons_zero, List.set_cons_succ]
      rfl
    refine pure_ (i := 2) (N := some 25) (v := ?_) (a' := ?_) #[true, true, true, false, false, false, false, false, false, false, false, false, false, false, false, false, false, false, false, false, false, false, false] rfl rfl (any_of HT_.out (by kernel_rfl)) (fun _ _ _ h => h) (Or.inl ⟨by rfl, ?_⟩) ?_ ?_
    rotate_left
    · intro w'
      go_simp
      with_reducible rfl
    rotate_left
    · simp only [Act.put, List.setIfInBounds_toArray, List.set_cons_zero, List.set_cons_succ]
      rfl
    refine pure_ (i := 4) (N := some 27) (v := ?_) (a' := ?_) #[true, true, true, false, true, false, false, false, false, false, false, false, false, false, false, false, false, false, false, false, false, false, false] rfl rfl (any_of HT_.out (by kernel_rfl)) (fun _ _ _ h => h) (Or.inl ⟨by rfl, ?_⟩) ?_ ?_
    rotate_left
    · intro w'
      go_simp
      with_reducible rfl
    rotate_left
    · simp only [Act.put, List.setIfInBounds_toArray, List.set_cons_zero, List.set_cons_succ]
      rfl
    refine pure_ (i := 5) (N := some 28) (v := ?_) (a' := ?_) #[true, true, true, false, true, true, false, false, false, false, false, false, false, false, false, false, false, false, false, false, false, false, false] rfl rfl (any_of HT_.out (by kernel_rfl)) (fun _ _ _ h => h) (Or.inl ⟨by rfl, ?_⟩) ?_ ?_
    rotate_left
    · intro w'
      go_simp
      with_reducible rfl
    rotate_left
    · simp only [Act.put, List.setIfInBounds_toArray, List.set_cons_zero, List.set_cons_succ]
      rfl
    refine pure_ (i := 6) (N := some 29) (v := ?_) (a' := ?_) #[true, true, true, false, true, true, true, false, false, false, false, false, false, false, false, false, false, false, false, false, false, false, false] rfl rfl (any_of HT_.out (by kernel_rfl)) (fun _ _ _ h => h) (Or.inl ⟨by rfl, ?_⟩) ?_ ?_
    rotate_left
    · intro w'
      go_simp
      with_reducible rfl
    rotate_left
    · simp only [Act.put, List.setIfInBounds_toArray, List.set_cons_zero, List.set_cons_succ]
      rfl
    refine pure_ (i := 9) (N := some 32) (v := ?_) (a' := ?_) #[true, true, true, false, true, true, true, false, false, true, false, false, false, false, false, false, false, false, false, false, false, false, false] rfl rfl (any_of HT_.out (by kernel_rfl)) (fun _ _ _ h => h) (Or.inl ⟨by rfl, ?_⟩) ?_ ?_
    rotate_left
    · intro w'
      go_simp
      with_reducible rfl
    rotate_left
    · simp only [Act.put, List.setIfInBounds_toArray, List.set_cons_zero, List.set_cons_succ]
      rfl
    refine pure_ (i := 10) (N := some 33) (v := ?_) (a' := ?_) #[true, true, true, false, true, true, true, false, false, true, true, false, false, false, false, false, false, false, false, false, false, false, false] rfl rfl (any_of HT_.out (by kernel_rfl)) (fun _ _ _ h => h) (Or.inl ⟨by rfl, ?_⟩) ?_ ?_
    rotate_left
    · intro w'
      go_simp
      with_reducible rfl
    rotate_left
    · simp only [Act.put, List.setIfInBounds_toArray, List.set_cons_zero, List.set_cons_succ]
      rfl
    refine pure_ (i := 11) (N := some 34) (v := ?_) (a' := ?_) #[true, true, true, false, true, true, true, false, false, true, true, true, false, false, false, false, false, false, false, false, false, false, false] rfl rfl (any_of HT_.out (by kernel_rfl)) (fun _ _ _ h => h) (Or.inl ⟨by rfl, ?_⟩) ?_ ?_
    rotate_left
    · intro w'
      go_simp
      with_reducible rfl
    rotate_left
    · simp only [Act.put, List.setIfInBounds_toArray, List.set_cons_zero, List.set_cons_succ]
      rfl
    refine pure_ (i := 15) (N := some 38) (v := ?_) (a' := ?_) #[true, true, true, false, true, true, true, false, false, true, true, true, false, false, false, true, false, false, false, false, false, false, false] rfl rfl (any_of HT_.out (by kernel_rfl)) (fun _ _ _ h => h) (Or.inl ⟨by rfl, ?_⟩) ?_ ?_
    rotate_left
    · intro w'
      go_simp
      with_reducible rfl
    rotate_left
    · simp only [Act.put, List.setIfInBounds_toArray, List.set_cons_zero, List.set_cons_succ]
      rfl
    refine pure_ (i := 16) (N := some 39) (v := ?_) (a' := ?_) #[true, true, true, false, true, true, true, false, false, true, true, true, false, false, false, true, true, false, false, false, false, false, false] rfl rfl (any_of HT_.out (by kernel_rfl)) (fun _ _ _ h => h) (Or.inl ⟨by rfl, ?_⟩) ?_ ?_
    rotate_left
    · intro w'
      go_simp
      with_reducible rfl
    rotate_left
    · simp only [Act.put, List.setIfInBounds_toArray, List.set_cons_zero, List.set_cons_succ]
      rfl
    refine pure_ (i := 18) (N := some 41) (v := ?_) (a' := ?_) #[true, true, true, false, true, true, true, false, false, true, true, true, false, false, false, true, true, false, true, false, false, false, false] rfl rfl (any_of HT_.out (by kernel_rfl)) (fun _ _ _ h => h) (Or.inl ⟨by rfl, ?_⟩) ?_ ?_
    rotate_left
    · intro w'
      go_simp
      with_reducible rfl
    rotate_left
    · simp only [Act.put, List.setIfInBounds_toArray, List.set_cons_zero, List.set_cons_succ]
      rfl
    refine take_ (i := 3) (N := some 26) (v := ?_) (a' := ?_) #[true, true, true, true, true, true, true, false, false, true, true, true, false, false, false, true, true, false, true, false, false, false, false] rfl rfl (take_ofW HT_.out HW_.out (by kernel_rfl)) (fun _ _ _ h => h) (Or.inl ⟨by rfl, ?_⟩) hHeld ?_ ?_
    rotate_left
    · rintro w' ⟨z0, z1, z2, z3, z4⟩
      go_simp
      with_reducible rfl
    rotate_left
    · simp only [Act.put, List.setIfInBounds_toArray, List.set_cons_zero, List.set_cons_succ]
      rfl
    refine take_ (i := 7) (N := some 30) (v := ?_) (a' := ?_) #[true, true, true, true, true, true, true, true, false, true, true, true, false, false, false, true, true, false, true, false, false, false, false] rfl rfl (take_ofW HT_.out HW_.out (by kernel_rfl)) (fun _ _ _ h => h) (Or.inl ⟨by rfl, ?_⟩) hHeld ?_ ?_
    rotate_left
    · rintro w' ⟨z0, z1, z2, z3, z4⟩
      go_simp
      with_reducible rfl
    rotate_left
    · simp only [Act.put, List.setIfInBounds_toArray, List.set_cons_zero, List.set_cons_succ]
      rfl
    refine take_ (i := 12) (N := some 35) (v := ?_) (a' := ?_) #[true, true, true, true, true, true, true, true, false, true, true, true, true, false, false, true, true, false, true, false, false, false, false] rfl rfl (take_ofW HT_.out HW_.out (by kernel_rfl)) (fun _ _ _ h => h) (Or.inl ⟨by rfl, ?_⟩) hHeld ?_ ?_
    rotate_left
    · rintro w' ⟨z0, z1, z2, z3, z4⟩
      go_simp
      with_reducible rfl
    rotate_left
    · simp only [Act.put, List.setIfInBounds_toArray, List.set_cons_zero, List.set_cons_succ]
      rfl
    refine take_ (i := 17) (N := some 40) (v := ?_) (a' := ?_) #[true, true, true, true, true, true, true, true, false, true, true, true, true, false, false, true, true, true, true, false, false, false, false] rfl rfl (take_ofW HT_.out HW_.out (by kernel_rfl)) (fun _ _ _ h => h) (Or.inl ⟨by rfl, ?_⟩) hHeld ?_ ?_
    rotate_left
    · rintro w' ⟨z0, z1, z2, z3, z4⟩
      go_simp
      with_reducible rfl
    rotate_left
    · simp only [Act.put, List.setIfInBounds_toArray, List.set_cons_zero, List.set_cons_succ]
      rfl
    refine pure_ (i := 8) (N := some 31) (v := ?_) (a' := ?_) #[true, true, true, true, true, true, true, true, true, true, true, true, true, false, false, true, true, true, true, false, false, false, false] rfl rfl (any_of HT_.out (by kernel_rfl)) (fun _ _ _ h => h) (Or.inl ⟨by rfl, ?_⟩) ?_ ?_
    rotate_left
    · intro w'
      go_simp
      with_reducible rfl
    rotate_left
    · simp only [Act.put, List.setIfInBounds_toArray, List.set_cons_zero, List.set_cons_succ]
      rfl
    refine pure_ (i := 13) (N := some 36) (v := ?_) (a' := ?_) #[true, true, true, true, true, true, true, true, true, true, true, true, true, true, false, true, true, true, true, false, false, false, false] rfl rfl (any_of HT_.out (by kernel_rfl)) (fun _ _ _ h => h) (Or.inl ⟨by rfl, ?_⟩) ?_ ?_
    rotate_left
    · intro w'
      go_simp
      with_reducible rfl
    rotate_left
    · simp only [Act.put, List.setIfInBounds_toArray, List.set_cons_zero, List.set_cons_succ]
      rfl
    refine pure_ (i := 14) (N := some 37) (v := ?_) (a' := ?_) #[true, true, true, true, true, true, true, true, true, true, true, true, true, true, true, true, true, true, true, false, false, false, false] rfl rfl (any_of HT_.out (by kernel_rfl)) (fun _ _ _ h => h) (Or.inl ⟨by rfl, ?_⟩) ?_ ?_
    rotate_left
    · intro w'
      go_simp
      with_reducible rfl
    rotate_left
    · simp only [Act.put, List.setIfInBounds_toArray, List.set_cons_zero, List.set_cons_succ]
      rfl
    clear h0_ h2_ h3_ hp0 hp1
    generalize w.drew = W0 at hS hC0 hC1 ⊢ hHeld
    refine one_ (i := 19) (N := some 42) #[true, true, true, true, true, true, true, true, true, true, true, true, true, true, true, true, true, true, true, true, false, false, false] rfl rfl (one_of HT_.out (by kernel_rfl)) (by decide) (fun K hK => ?_)
    rw [if_pos (by rfl)]
    go_simp
    refine (queue_plain_messages.calls k _ cv l0 _ l1.length l1 (i : Int) mn _ hC0 hcap hC1 (Nat.le_refl _) hpl).mono ?_
    rintro e wc ⟨rfl, hb_⟩
    have hS1 := vbelow_step hS hb_
    refine hK.out _ _ ⟨vcell hb_ hHeld.1, vcell hb_ hHeld.2.1, vcell hb_ hHeld.2.2.1, vcell hb_ hHeld.2.2.2.1, vcell hb_ hHeld.2.2.2.2⟩ (fun hHeld => ?_)
    clear hK K
    refine pure_ (i := 20) (N := some 43) (v := ?_) (a' := ?_) #[true, true, true, true, true, true, true, true, true, true, true, true, true, true, true, true, true, true, true, true, true, false, false] rfl rfl (any_of HT_.out (by kernel_rfl)) (fun _ _ _ h => h) (Or.inl ⟨by rfl, ?_⟩) ?_ ?_
    rotate_left
    · intro w'
      go_simp
      with_reducible rfl
    rotate_left
    · simp only [Act.put, List.setIfInBounds_toArray, List.set_cons_zero, List.set_cons_succ]
      rfl
    refine pure_ (i := 21) (N := some 44) (v := ?_) (a' := ?_) #[true, true, true, true, true, true, true, true, true, true, true, true, true, true, true, true, true, true, true, true, true, true, false] rfl rfl (any_of HT_.out (by kernel_rfl)) (fun _ _ _ h => h) (Or.inl ⟨by rfl, ?_⟩) ?_ ?_
    rotate_left
    · intro w'
      go_simp
      with_reducible rfl
    rotate_left
    · simp only [Act.put, List.setIfInBounds_toArray, List.set_cons_zero, List.set_cons_succ]
      rfl
    refine pure_ (i := 22) (N := some 22) (v := ?_) (a' := ?_) #[true, true, true, true, true, true, true, true, true, true, true, true, true, true, true, true, true, true, true, true, true, true, true] rfl rfl (any_of HT_.out (by kernel_rfl)) (fun _ _ _ h => h) (Or.inl ⟨by rfl, ?_⟩) ?_ ?_
    rotate_left
    · intro w'
      go_simp
      with_reducible rfl
    rotate_left
    · simp only [Act.put, List.setIfInBounds_toArray, List.set_cons_zero, List.set_cons_succ]
      rfl
    refine done_ (done_of HT_.out (by kernel_rfl)) ?_
    exact ⟨rfl, hS1, _, _, _, _, _, _, _, _, _, _, _, _, _, _, _, _, _, _, _, _, _, _, rfl⟩
end Go.Proofs.Ytcifbemppbegbaa.Q

/- Layer 10: what Retire calls on a queue of its own. -/
namespace Go.Proofs.Ytcifbemppbegbaa.Q
open Go.RowKit Go.Proofs.YtcifbemppbegbaaW.PrintWords Go.Proofs.YtcifbemppbegbaaW.PrintMore Go.Proofs.YtcifbemppbegbaaW.PrintLast
set_option linter.unusedVariables false
set_option linter.unusedSimpArgs false
theorem Mine.out {B : Nat} {W : World} {p gl cv gm : Nat} {l0 : List S61} {l1 : List S40} (h : Mine B W p gl cv gm l0 l1) (hn : l0.length ≤ 10000) : BoxOut W p l0 l1 := ⟨_, cv, _, _, h.box, h.cap, Nat.le_refl _, fun W' hk => ⟨(h.lanes.rd.KQ hk).C (by omega), (Kd.R_reads' (R40_KQ h.msgs hk)).2.2⟩⟩
set_option maxRecDepth 100000 in
set_option maxHeartbeats 4000000 in
theorem retire_one {B p gl cv gm i bm k : Nat} {ep m2 m3 mn : Int} {w : World} {l0 : List S61} {l1 : List S40} {y : S61} (h : Mine B w p gl cv gm l0 l1) (hBw : B ≤ w.heap.size) (hm : w.heap[bm]? = some (.cells #[.int .i64 (i : Int), .int .i64 ep, .int .i64 m2, .int .u64 m3] 40 (0, 0))) (hx : l0[i]? = some y) (hn0 : l0.length ≤ 10000) (hn1 : l1.length ≤ 1000) (hpl : queue_plain_messages.f k l0 l1 (i : Int) = some mn) (he : ep = y.f5) (r0 : 0 ≤ y.f0 ∧ y.f0 ≤ 1099511627776) (r2 : 0 ≤ y.f2 ∧ y.f2 ≤ 1099511627776) (r3 : y.f3.length ≤ 1000000) (rm : 0 ≤ mn ∧ mn ≤ 1000000) (hz : y.f0 - y.f2 - (y.f3.length : Int) - mn ≠ 0) (hf : y.f1 = false) : Calls Try.prog 38 #[.pointer (some ⟨p, 0, none⟩), .int .i64 (i : Int), .pointer (some ⟨bm, 0, none⟩)] w fun e w' => e = .returned (.int .i64 0) ∧ Below B w w' ∧ BoxOut w' p l0 l1 := by
  have t1 : (ep != y.f5) = false := by rw [he]; exact bne_self_eq_false _
  have e1 : IntKind.i64.wrap (y.f0 - y.f2) = y.f0 - y.f2 := (i64_w _).trans (w64 (by omega) (by omega))
  have e2 : IntKind.i64.wrap (y.f0 - y.f2 - (y.f3.length : Int)) = y.f0 - y.f2 - (y.f3.length : Int) := (i64_w _).trans (w64 (by omega) (by omega))
  have e3 : IntKind.i64.wrap (y.f0 - y.f2 - (y.f3.length : Int) - mn) = y.f0 - y.f2 - (y.f3.length : Int) - mn := (i64_w _).trans (w64 (by omega) (by omega))
  have e4 : IntKind.i64.wrap (y.f2 + 1) = y.f2 + 1 := (i64_w _).trans (w64 (by omega) (by omega))
  have t2 : (y.f0 - y.f2 - (y.f3.length : Int) - mn == 0) = false := beq_eq_false_iff_ne.2 hz
  have hi : i < l0.length := (List.getElem?_eq_some_iff.1 hx).1
  have hi0 : (0 : Int) ≤ (i : Int) := by omega
  have hi1 : (i : Int) < (l0.length : Int) := by omega
  have hp0 := h.p0
  have hp1 := h.p1
  have g1 : w.cell? ⟨bm, 1, none⟩ = some (.int .i64 ep) := (cell_in hm).trans rfl
  obtain ⟨A, c, c0, c1, c2, c3, c4, c5, hF, hc, hC⟩ := h.lanes.rd.cells hx
  have hC0 := h.lanes.rd.C (by omega)
  have hC1 := (Kd.R_reads' h.msgs).2.2
  have hcap := Lib.hid h.cap
  have hh := Lib.hid h
  have hmx : Try.prog.follows .mixedOrders = true := by kernel_rfl
  have hS : Below w.heap.size w w.drew := vbelow_drew (Below.refl _ _)
  clear h hC hc
  rw [hf] at c1
  go_enter Try.func38, Try.ntmps38
  go_wp2_with fail
  go_region
  all_goals go_wp2_with fail
  all_goals refine wp_mono (ret_r4 p gl gm cv c i k A mn l0 l1 y _ _ _ _ _ _ _ _ _ _ _ _ _ _ _ _ _ _ _ _ _ _ _ _ _ _ _ _ _ _ _ _ _ _ _ _ _ _ _ _ _ _ _ _ _ _ _ _ _ _ _ _ _ _ _ _ _ (by rfl) c0 c2 c3 hp0 hp1 hcap.out (Kd.C_drew hC0) (Kd.C_drew hC1) hpl e1 e2 e3) ?_
  all_goals intro e a w3 h_
  all_goals obtain ⟨rfl, hb3, s23, s24, s25, s26, s27, s28, s29, s30, s31, s32, s33, s34, s35, s36, s37, s38, s39, s40, s41, s42, s43, s44, rfl⟩ := NoPanic.imp _ _ _ h_
  all_goals clear h_
  all_goals have hb4 := vbelow_step hS hb3
  all_goals have h3 := hh.out.on hb4
  all_goals obtain ⟨A', c', d0, d1, d2, d3, d4, d5, dF, _, _⟩ := h3.lanes.rd.cells hx
  all_goals rw [hf] at d1
  all_goals have dF2 := dF (i * 6 + 2)
  all_goals go_wp2_with fail
  all_goals go_ret
  all_goals exact ⟨rfl, hb4.mono hBw, h3.out hn0⟩
end Go.Proofs.Ytcifbemppbegbaa.Q
