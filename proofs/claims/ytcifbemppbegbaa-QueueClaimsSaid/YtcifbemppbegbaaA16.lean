/- Layer 10: claim: a number appended to a lane's claims. -/
import Derived.Test.YtcifbemppbegbaaA14
namespace Go.Proofs.Ytcifbemppbegbaa.Q
open Go.RowKit Go.Proofs.YtcifbemppbegbaaW.PrintWords Go.Proofs.YtcifbemppbegbaaW.PrintMore Go.Proofs.YtcifbemppbegbaaW.PrintLast
set_option linter.unusedVariables false
set_option linter.unusedSimpArgs false
set_option maxRecDepth 100000 in
set_option maxHeartbeats 4000000 in
theorem claim_r6 (B gl i c : Nat) (A : Option Addr) (f3 : List Int) (f4 : Int) (ds : List Deferred) (t0 t1 t2 t3 t4 t6 t7 t8 t9 t10 t11 t12 t13 t14 t15 t16 t17 t18 t19 t20 t21 t22 t23 t24 t25 t26 t27 t28 t29 t30 t31 t32 t33 t34 t35 t36 t37 t38 t39 t40 t41 t42 t43 t44 t45 t46 t47 t48 t49 t50 t51 : Value) (w : World) (ops : Array Oper) (hops : opsOf Try.f30 6 = ops) (hU : w.cell? ⟨gl, i * 6 + 3, none⟩ = some (.slice A f3.length c)) (hN : w.cell? ⟨gl, i * 6 + 4, none⟩ = some (.int .i64 f4)) (hR : (Kd.int .i64).R 3 w B (fun _ => True) (.slice A f3.length c) f3) (hBw : B ≤ w.heap.size) (hb3 : f3.length ≤ 1000000)
    (hF : ∀ Wl wc : World, Below w.heap.size w Wl → Wl.grownBy wc (Value.slice A f3.length c).ownBlock → wc.frozen? ⟨gl, i * 6 + 3, none⟩ = false)
    (hC : ∀ Wl wc : World, Below w.heap.size w Wl → Wl.grownBy wc (Value.slice A f3.length c).ownBlock → wc.cell? ⟨gl, i * 6 + 3, none⟩ = some (.slice A f3.length c) ∧ wc.cell? ⟨gl, i * 6 + 4, none⟩ = some (.int .i64 f4)) :
    (Code.region 6 ops true).wp Try.prog (NoPanic fun e a w' => e = .normal ∧ ∃ vl Av cv Wl wc, a = { tmps := #[t0, t1, t2, t3, t4, .pointer (some ⟨gl, i * 6, none⟩), t6, t7, t8, t9, t10, t11, t12, t13, t14, t15, t16, t17, t18, t19, t20, t21, t22, t23, t24, .pointer (some ⟨gl, i * 6, none⟩), .pointer (some ⟨gl, i * 6, none⟩), .pointer (some ⟨gl, i * 6, none⟩), .pointer (some ⟨gl, i * 6 + 3, none⟩), .slice A f3.length c, .pointer (some ⟨gl, i * 6, none⟩), .pointer (some ⟨gl, i * 6, none⟩), .pointer (some ⟨gl, i * 6 + 4, none⟩), .int .i64 f4, vl, .slice Av (f3 ++ [f4]).length cv, .pointer (some ⟨gl, i * 6, none⟩), .pointer (some ⟨gl, i * 6 + 3, none⟩), t38, t39, t40, t41, t42, t43, t44, t45, t46, t47, t48, t49, t50, t51], defers := ds } ∧ w' = wc.setCell ⟨gl, i * 6 + 3, none⟩ (.slice Av (f3 ++ [f4]).length cv) ∧ (Kd.int .i64).R 3 wc B (fun _ => True) (.slice Av (f3 ++ [f4]).length cv) (f3 ++ [f4]) ∧ Below w.heap.size w Wl ∧ Wl.grownBy wc (Value.slice A f3.length c).ownBlock ∧ Below B w wc) { tmps := #[t0, t1, t2, t3, t4, .pointer (some ⟨gl, i * 6, none⟩), t6, t7, t8, t9, t10, t11, t12, t13, t14, t15, t16, t17, t18, t19, t20, t21, t22, t23, t24, t25, t26, t27, t28, t29, t30, t31, t32, t33, t34, t35, t36, t37, t38, t39, t40, t41, t42, t43, t44, t45, t46, t47, t48, t49, t50, t51], defers := ds } w := by
    simp [opsOf, opsIn, Try.f30] at hops
    subst hops
    have hS : Below w.heap.size w w.drew := vbelow_drew (Below.refl _ _)
    have hR0 := Kd.R_drew hR
    refine start_ (n := 14) (S := fun w' => w'.cell? ⟨gl, i * 6 + 3, none⟩ = some (.slice A f3.length c) ∧ w'.cell? ⟨gl, i * 6 + 4, none⟩ = some (.int .i64 f4)) (ds := [13]) #[false, false, false, false, false, false, false, false, false, false, false, false, false, false] (by kernel_rfl) rfl rfl ⟨hU, hN⟩ (fun hHeld => ?_)
    refine pure_ (i := 0) (N := some 25) (v := ?_) (a' := ?_) #[true, false, false, false, false, false, false, false, false, false, false, false, false, false] rfl rfl (by kernel_rfl) (fun _ _ _ h => h) (Or.inl ⟨by rfl, ?_⟩) ?_ ?_
    rotate_left
    · intro w'
      go_simp
      with_reducible rfl
    rotate_left
    · simp only [Act.put, List.setIfInBounds_toArray, List.set_cons_zero, List.set_cons_succ]
      rfl
    refine pure_ (i := 1) (N := some 26) (v := ?_) (a' := ?_) #[true, true, false, false, false, false, false, false, false, false, false, false, false, false] rfl rfl (by kernel_rfl) (fun _ _ _ h => h) (Or.inl ⟨by rfl, ?_⟩) ?_ ?_
    rotate_left
    · intro w'
      go_simp
      with_reducible rfl
    rotate_left
    · simp only [Act.put, List.setIfInBounds_toArray, List.set_cons_zero, List.set_cons_succ]
      rfl
    refine pure_ (i := 2) (N := some 27) (v := ?_) (a' := ?_) #[true, true, true, false, false, false, false, false, false, false, false, false, false, false] rfl rfl (by kernel_rfl) (fun _ _ _ h => h) (Or.inl ⟨by rfl, ?_⟩) ?_ ?_
    rotate_left
    · intro w'
      go_simp
      with_reducible rfl
    rotate_left
    · simp only [Act.put, List.setIfInBounds_toArray, List.set_cons_zero, List.set_cons_succ]
      rfl
    refine pure_ (i := 3) (N := some 28) (v := ?_) (a' := ?_) #[true, true, true, true, false, false, false, false, false, false, false, false, false, false] rfl rfl (by kernel_rfl) (fun _ _ _ h => h) (Or.inl ⟨by rfl, ?_⟩) ?_ ?_
    rotate_left
    · intro w'
      go_simp
      with_reducible rfl
    rotate_left
    · simp only [Act.put, List.setIfInBounds_toArray, List.set_cons_zero, List.set_cons_succ]
      rfl
    refine pure_ (i := 5) (N := some 30) (v := ?_) (a' := ?_) #[true, true, true, true, false, true, false, false, false, false, false, false, false, false] rfl rfl (by kernel_rfl) (fun _ _ _ h => h) (Or.inl ⟨by rfl, ?_⟩) ?_ ?_
    rotate_left
    · intro w'
      go_simp
      with_reducible rfl
    rotate_left
    · simp only [Act.put, List.setIfInBounds_toArray, List.set_cons_zero, List.set_cons_succ]
      rfl
    refine pure_ (i := 6) (N := some 31) (v := ?_) (a' := ?_) #[true, true, true, true, false, true, true, false, false, false, false, false, false, false] rfl rfl (by kernel_rfl) (fun _ _ _ h => h) (Or.inl ⟨by rfl, ?_⟩) ?_ ?_
    rotate_left
    · intro w'
      go_simp
      with_reducible rfl
    rotate_left
    · simp only [Act.put, List.setIfInBounds_toArray, List.set_cons_zero, List.set_cons_succ]
      rfl
    refine pure_ (i := 7) (N := some 32) (v := ?_) (a' := ?_) #[true, true, true, true, false, true, true, true, false, false, false, false, false, false] rfl rfl (by kernel_rfl) (fun _ _ _ h => h) (Or.inl ⟨by rfl, ?_⟩) ?_ ?_
    rotate_left
    · intro w'
      go_simp
      with_reducible rfl
    rotate_left
    · simp only [Act.put, List.setIfInBounds_toArray, List.set_cons_zero, List.set_cons_succ]
      rfl
    refine take_ (i := 4) (N := some 29) (v := ?_) (a' := ?_) #[true, true, true, true, true, true, true, true, false, false, false, false, false, false] rfl rfl (by kernel_rfl) (fun _ _ _ h => h) (Or.inl ⟨by rfl, ?_⟩) hHeld ?_ ?_
    rotate_left
    · rintro w' ⟨s0, s1⟩
      go_simp
      with_reducible rfl
    rotate_left
    · simp only [Act.put, List.setIfInBounds_toArray, List.set_cons_zero, List.set_cons_succ]
      rfl
    refine take_ (i := 8) (N := some 33) (v := ?_) (a' := ?_) #[true, true, true, true, true, true, true, true, true, false, false, false, false, false] rfl rfl (by kernel_rfl) (fun _ _ _ h => h) (Or.inl ⟨by rfl, ?_⟩) hHeld ?_ ?_
    rotate_left
    · rintro w' ⟨s0, s1⟩
      go_simp
      with_reducible rfl
    rotate_left
    · simp only [Act.put, List.setIfInBounds_toArray, List.set_cons_zero, List.set_cons_succ]
      rfl
    clear hU hN
    generalize w.drew = W0 at hS hR0 ⊢ hHeld
    have hB0 : Below B w W0 := hS.mono hBw
    refine one_ (i := 9) (N := some 34) #[true, true, true, true, true, true, true, true, true, true, false, false, false, false] rfl rfl (by kernel_rfl) (by decide) (fun K hK => ?_)
    refine Kd.R_lit_step (Kd.int .i64) (w0 := w) B 3 ?hg (N := 34) ?hd (xs := ([f4] : List Int)) (inner := [.int .i64 f4]) (ok := fun _ => True) (okp := fun _ => True) ?hr ?hp (fun _ hk => hk) trivial hB0 (Nat.le_trans hBw hS.size) (by simp) ?_; (case hd => rfl); (case hg => rfl); (case hr => first | (go_simp; done) | (go_simp; rfl)); (case hp => exact (Reps.one (show Kd.M (Kd.int .i64) _ _ _ f4 [.int .i64 f4] from rfl) (Reps.none _ _)))
    intro vl Wl hl hBl hgl_ hal
    have hWl : Below W0.heap.size W0 Wl := ⟨hgl_.os, hgl_.tape, hgl_.output, hgl_.size, fun k hk => hgl_.block k hk (by simp)⟩
    have hSl := vbelow_step hS hWl
    have hRl := Kd.R_below hR0 hWl
    obtain ⟨Al, cl, el⟩ := Kd.R_slice hl
    subst el
    refine hK.out _ _ ⟨vcell hWl hHeld.1, vcell hWl hHeld.2⟩ (fun hHeld => ?_)
    clear hK K hgl_ hal
    refine norm_ (a' := ?_) ?_ ?_
    rotate_left
    · show Act.put _ (some 34) _ = _
      simp only [Act.put, List.setIfInBounds_toArray, List.set_cons_zero, List.set_cons_succ]
      rfl
    refine one_ (i := 10) (N := some 35) #[true, true, true, true, true, true, true, true, true, true, true, false, false, false] rfl rfl (by kernel_rfl) (by decide) (fun K hK => ?_)
    refine Kd.R_append_rows_step (Kd.int .i64) (w0 := w) B (by rfl) (.tmp 29) (.tmp 34) 48 3 (.int .i64 0) 8 rfl Try.underlying48 infoI3 rfl (by decide) (by omega) (.slice A f3.length c) f3 [f4] _ _ _ (fun _ => True) (fun _ => False) rfl rfl ?aO (Kd.R_reads' hl).2.2 (fun _ _ h => h) (fun _ h => h.elim) (fun _ _ => trivial) ?aB ?aS ?aL ?_; (case aB => exact hBl); (case aO => exact hRl); (case aS => exact Nat.le_trans hBw hBl.size); (case aL => simp only [List.length_cons, List.length_nil]; omega)
    intro va wc hRa hBa hga hata
    obtain ⟨Av, cv, ea⟩ := Kd.R_slice hRa
    subst ea
    have hF1 := hF Wl wc hSl hga
    have hC1 := hC Wl wc hSl hga
    refine hK.out _ _ hC1 (fun hHeld => ?_)
    clear hK K
    refine norm_ (a' := ?_) ?_ ?_
    rotate_left
    · show Act.put _ (some 35) _ = _
      simp only [Act.put, List.setIfInBounds_toArray, List.set_cons_zero, List.set_cons_succ]
      rfl
    have hx1 := hHeld.1
    refine pure_ (i := 11) (N := some 36) (v := ?_) (a' := ?_) #[true, true, true, true, true, true, true, true, true, true, true, true, false, false] rfl rfl (by kernel_rfl) (fun _ _ _ h => h) (Or.inl ⟨by rfl, ?_⟩) ?_ ?_
    rotate_left
    · intro w'
      go_simp
      with_reducible rfl
    rotate_left
    · simp only [Act.put, List.setIfInBounds_toArray, List.set_cons_zero, List.set_cons_succ]
      rfl
    refine pure_ (i := 12) (N := some 37) (v := ?_) (a' := ?_) #[true, true, true, true, true, true, true, true, true, true, true, true, true, false] rfl rfl (by kernel_rfl) (fun _ _ _ h => h) (Or.inl ⟨by rfl, ?_⟩) ?_ ?_
    rotate_left
    · intro w'
      go_simp
      with_reducible rfl
    rotate_left
    · simp only [Act.put, List.setIfInBounds_toArray, List.set_cons_zero, List.set_cons_succ]
      rfl
    refine last_ (i := 13) (N := none) #[true, true, true, true, true, true, true, true, true, true, true, true, true, true] rfl rfl (by kernel_rfl) (by decide) (fun K hK => ?_)
    refine skip_ (w1 := ?_) (by rfl) rfl ?_ ?_
    rotate_left
    · go_simp
      rfl
    refine hK.out _ _ ?_
    clear hK K
    refine done_ (by kernel_rfl) ?_
    exact ⟨rfl, _, Av, cv, Wl, wc, rfl, by rw [List.length_append]; rfl, hRa, hSl, hga, hBa⟩
end Go.Proofs.Ytcifbemppbegbaa.Q

/- Layer 10: claim: a call on a lane of a queue of one's own. -/
namespace Go.Proofs.Ytcifbemppbegbaa.Q
open Go.RowKit Go.Proofs.YtcifbemppbegbaaW.PrintWords Go.Proofs.YtcifbemppbegbaaW.PrintMore Go.Proofs.YtcifbemppbegbaaW.PrintLast
set_option linter.unusedVariables false
set_option linter.unusedSimpArgs false
theorem w64 {x : Int} (h0 : -9223372036854775808 ≤ x) (h1 : x ≤ 9223372036854775807) : wrap64 x = x := by unfold wrap64; omega
/-- A queue of one's own in the block p. -/
structure Mine (B : Nat) (W : World) (p gl cv gm : Nat) (l0 : List S61) (l1 : List S40) : Prop where
  box : W.heap[p]? = some (.cells #[.slice (some ⟨gl, 0, none⟩) l0.length cv, .slice (some ⟨gm, 0, none⟩) l1.length l1.length] 72 (0, 0))
  low : B ≤ p
  cap : l0.length ≤ cv
  lanes : Half W B W gl l0.length cv l0 l0.length
  msgs : k40.R 40 W B (fun _ => True) (.slice (some ⟨gm, 0, none⟩) l1.length l1.length) l1
theorem Mine.p0 {B : Nat} {W : World} {p gl cv gm : Nat} {l0 : List S61} {l1 : List S40} (h : Mine B W p gl cv gm l0 l1) : W.cell? ⟨p, 0, none⟩ = some (.slice (some ⟨gl, 0, none⟩) l0.length cv) := by rw [cell_in h.box]; rfl
theorem Mine.p1 {B : Nat} {W : World} {p gl cv gm : Nat} {l0 : List S61} {l1 : List S40} (h : Mine B W p gl cv gm l0 l1) : W.cell? ⟨p, 1, none⟩ = some (.slice (some ⟨gm, 0, none⟩) l1.length l1.length) := by rw [cell_in h.box]; rfl
theorem Half.low {w0 W : World} {B gl n cap : Nat} {xs : List S61} (h : Half w0 B W gl n cap xs n) : B ≤ gl ∧ gl < W.heap.size := by
  obtain ⟨cs, vs, hrow, hn, hcl, hvl, hch, hown, hin, hgl, hne⟩ := h
  rcases hrow.2 with ⟨h2, _⟩ | ⟨g', cap', cur, hv, h1, hh, hle, hcap, hsz, htake⟩
  · cases h2
  · injection hv with e1 e2 e3
    injection e1 with e4
    injection e4 with e5
    subst e5
    exact ⟨h1, (Array.getElem?_eq_some_iff.1 hh).1⟩
set_option maxRecDepth 100000 in
set_option maxHeartbeats 4000000 in
theorem claim_full {B p gl cv gm i : Nat} {w : World} {l0 : List S61} {l1 : List S40} {x : S61} (h : Mine B w p gl cv gm l0 l1) (hx : l0[i]? = some x) (h0 : x.f2 = 0) : Calls Try.prog 30 #[.pointer (some ⟨p, 0, none⟩), .int .i64 (i : Int)] w fun e w' => e = .returned (.int .i64 101) ∧ w' = w := by
  have hi : i < l0.length := (List.getElem?_eq_some_iff.1 hx).1
  have hi0 : (0 : Int) ≤ (i : Int) := by omega
  have hi1 : (i : Int) < (l0.length : Int) := by omega
  have hp0 := h.p0
  obtain ⟨A, c, c0, c1, c2, c3, c4, c5, hF, hc, hC⟩ := h.lanes.rd.cells hx
  have t1 : (x.f2 == 0) = true := beq_iff_eq.2 h0
  have t2 : decide (x.f2 = 0) = true := decide_eq_true h0
  clear hC h
  go_enter Try.func30, Try.ntmps30
  go_wp2
  go_ret
  exact ⟨rfl, rfl⟩
set_option maxRecDepth 100000 in
set_option maxHeartbeats 4000000 in
theorem claim_many {B p gl cv gm i : Nat} {w : World} {l0 : List S61} {l1 : List S40} {x : S61} (h : Mine B w p gl cv gm l0 l1) (hx : l0[i]? = some x) (h0 : x.f2 ≠ 0) (h4 : x.f4 = 1099511627776) : Calls Try.prog 30 #[.pointer (some ⟨p, 0, none⟩), .int .i64 (i : Int)] w fun e w' => e = .returned (.int .i64 3) ∧ w' = w := by
  have hi : i < l0.length := (List.getElem?_eq_some_iff.1 hx).1
  have hi0 : (0 : Int) ≤ (i : Int) := by omega
  have hi1 : (i : Int) < (l0.length : Int) := by omega
  have hp0 := h.p0
  obtain ⟨A, c, c0, c1, c2, c3, c4, c5, hF, hc, hC⟩ := h.lanes.rd.cells hx
  have t1 : (x.f2 == 0) = false := beq_eq_false_iff_ne.2 h0
  have t3 : (x.f4 == 1099511627776) = true := beq_iff_eq.2 h4
  have t2 : decide (x.f2 = 0) = false := decide_eq_false h0
  have t4 : decide (x.f4 = 1099511627776) = true := decide_eq_true h4
  clear hC h
  go_enter Try.func30, Try.ntmps30
  go_wp2
  go_ret
  exact ⟨rfl, rfl⟩
set_option maxRecDepth 100000 in
set_option maxHeartbeats 4000000 in
theorem claim_ok {B p gl cv gm i : Nat} {w : World} {l0 : List S61} {l1 : List S40} {x : S61} (h : Mine B w p gl cv gm l0 l1) (hBw : B ≤ w.heap.size) (hx : l0[i]? = some x) (h0 : x.f2 ≠ 0) (h4 : x.f4 ≠ 1099511627776) (hl3 : x.f3.length ≤ 1000000) (hr2 : 0 ≤ x.f2 ∧ x.f2 ≤ 1099511627776) (hr4 : 0 ≤ x.f4 ∧ x.f4 ≤ 1099511627776) : Calls Try.prog 30 #[.pointer (some ⟨p, 0, none⟩), .int .i64 (i : Int)] w fun e w' => e = .returned (.int .i64 0) ∧ Below B w w' ∧ Rd w' gl (l0.set i { x with f2 := x.f2 - 1, f3 := x.f3 ++ [x.f4], f4 := x.f4 + 1 }) ∧ w'.heap[p]? = w.heap[p]? ∧ k40.R 40 w' B (fun _ => True) (.slice (some ⟨gm, 0, none⟩) l1.length l1.length) l1 := by
  have hi : i < l0.length := (List.getElem?_eq_some_iff.1 hx).1
  have hi0 : (0 : Int) ≤ (i : Int) := by omega
  have hi1 : (i : Int) < (l0.length : Int) := by omega
  have hp0 := h.p0
  obtain ⟨A, c, c0, c1, c2, c3, c4, c5, hF, hc, hC⟩ := h.lanes.rd.cells hx
  have t1 : (x.f2 == 0) = false := beq_eq_false_iff_ne.2 h0
  have t3 : (x.f4 == 1099511627776) = false := beq_eq_false_iff_ne.2 h4
  have t2 : decide (x.f2 = 0) = false := decide_eq_false h0
  have t4 : decide (x.f4 = 1099511627776) = false := decide_eq_false h4
  have hR := h.lanes.claims hx c3
  have hgl := h.lanes.low
  obtain ⟨cur, hcur, _⟩ := h.lanes.rd
  have hrow : ∀ Wl wc : World, Below w.heap.size w Wl → Wl.grownBy wc (Value.slice A x.f3.length c).ownBlock → ∀ (k : Nat) (cells : Array Value) (t : TypeId), t ≠ 3 → w.heap[k]? = some (.cells cells t (0, 0)) → wc.heap[k]? = w.heap[k]? := fun Wl wc hb hg k cells t ht hk => by
    have h1 := heap_on hk hb
    refine (hg.block k (Array.getElem?_eq_some_iff.1 h1).1 (fun e => ?_)).trans (h1.trans hk.symm)
    obtain ⟨_, inner, ho, _⟩ := Kd.R_below hR hb
    obtain ⟨cells', hc'⟩ := own_typed ho k e.symm
    rw [h1] at hc'
    injection hc' with hc'
    injection hc' with _ hc'
    exact ht hc'
  go_enter Try.func30, Try.ntmps30
  go_wp2
  refine wp_mono (claim_r6 B gl i c A x.f3 x.f4 _ _ _ _ _ _ _ _ _ _ _ _ _ _ _ _ _ _ _ _ _ _ _ _ _ _ _ _ _ _ _ _ _ _ _ _ _ _ _ _ _ _ _ _ _ _ _ _ _ _ _ _ w _ (by rfl) c3 c4 hR hBw hl3 (fun Wl wc hb hg => frozen_in ((hrow Wl wc hb hg gl cur 61 (by decide) hcur).trans hcur)) (fun Wl wc hb hg => ?_)) ?_
  · have hh := (hrow Wl wc hb hg gl cur 61 (by decide) hcur).trans hcur
    rw [cell_in hcur] at c3 c4
    rw [cell_in hh, cell_in hh]
    exact ⟨c3, c4⟩
  intro e a W' h_
  obtain ⟨rfl, vl, Av, cv', Wl, wc, rfl, rfl, hR3, hSl, hg, hB⟩ := NoPanic.imp _ _ _ h_
  clear h_
  have hrd := (h.lanes.on hSl).regrown hx (vcell hSl c3) hg hR3
  have hcl := (hrow Wl wc hSl hg gl cur 61 (by decide) hcur).trans hcur
  have hpb := hrow Wl wc hSl hg p _ 72 (by decide) h.box
  have hx1 : (l0.set i { x with f3 := x.f3 ++ [x.f4] })[i]? = some { x with f3 := x.f3 ++ [x.f4] } := by rw [List.getElem?_set, if_pos rfl, if_pos hi]
  have hM : k40.R 40 wc B (fun _ => True) (.slice (some ⟨gm, 0, none⟩) l1.length l1.length) l1 := Kd.R_mono (Kd.R_move (Kd.R_bound h.msgs) (fun k hk => by
    obtain ⟨_, _, _, q, hq, cells, hc⟩ := hk
    exact hrow Wl wc hSl hg k cells q ((by decide : ∀ q, q ∈ (40 : Nat) :: k40.E → q ≠ 3) q hq) hc)) (fun _ hk => hk.1)
  have hM1 := Kd.R_set hM hcl (by decide) (i * 6 + 3) (.slice Av (x.f3 ++ [x.f4]).length cv')
  have hB1 := hB.setCell (p := ⟨gl, i * 6 + 3, none⟩) hgl.1 (.slice Av (x.f3 ++ [x.f4]).length cv')
  have hpl : p ≠ gl := fun e_ => by
    have h5 := h.box
    rw [e_, hcur] at h5
    simp at h5
  have hpb1 := (Below.heap_setCell wc ⟨gl, i * 6 + 3, none⟩ (.slice Av (x.f3 ++ [x.f4]).length cv') p hpl).trans hpb
  clear hM hB hcl hpb hR3 hg hrow hR hC
  generalize wc.setCell ⟨gl, i * 6 + 3, none⟩ (.slice Av (x.f3 ++ [x.f4]).length cv') = W1 at hrd hM1 hB1 hpb1 ⊢
  obtain ⟨A', c', d0, d1, d2, d3, d4, d5, dF, _, _⟩ := hrd.cells hx1
  have dF2 := dF (i * 6 + 2)
  have dF4 := dF (i * 6 + 4)
  have e4 : IntKind.i64.wrap (x.f4 + 1) = x.f4 + 1 := (i64_w _).trans (w64 (by omega) (by omega))
  have e2 : IntKind.i64.wrap (x.f2 - 1) = x.f2 - 1 := (i64_w _).trans (w64 (by omega) (by omega))
  dsimp only at d0 d1 d2 d3 d4 d5
  go_wp2
  go_ret
  have r1 := hrd.put4 hx1 (x.f4 + 1)
  have hx2 : ((l0.set i { x with f3 := x.f3 ++ [x.f4] }).set i { x with f3 := x.f3 ++ [x.f4], f4 := x.f4 + 1 })[i]? = some { x with f3 := x.f3 ++ [x.f4], f4 := x.f4 + 1 } := by rw [List.set_set, List.getElem?_set, if_pos rfl, if_pos hi]
  have r2 := r1.put2 hx2 (x.f2 - 1)
  rw [List.set_set, List.set_set] at r2
  obtain ⟨cur1, hcur1, _⟩ := id hrd
  obtain ⟨cur2, hcur2, _⟩ := id r1
  refine ⟨rfl, (hB1.setCell (p := ⟨gl, _, none⟩) hgl.1 _).setCell (p := ⟨gl, _, none⟩) hgl.1 _, r2, ?_, Kd.R_set (Kd.R_set hM1 hcur1 (by decide) _ _) hcur2 (by decide) _ _⟩
  exact (Below.heap_setCell _ _ _ p hpl).trans ((Below.heap_setCell _ _ _ p hpl).trans hpb1)
end Go.Proofs.Ytcifbemppbegbaa.Q
