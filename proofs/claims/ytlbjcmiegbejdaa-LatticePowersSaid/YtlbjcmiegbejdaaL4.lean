/- Layer 2: what flows lack. -/
import Derived.Test.YtlbjcmiegbejdaaL2
import Derived.Test.YtlbjcmiegbejdaaQx3
import Derived.RangeFuncCalls
import Derived.Test.YtlbjcmiegbejdaaL1
namespace Go.Proofs.Ytlbjcmiegbejdaa.Q
open Go.RowKit Go.Shelf
attribute [local go_sem] Oper.semAt_some
set_option linter.unusedVariables false
set_option linter.unusedSimpArgs false
open Go.Proofs.YtlbjcmiegbejdaaW.PrintWords Go.Proofs.YtlbjcmiegbejdaaW.PrintMore Go.Proofs.YtlbjcmiegbejdaaW.PrintLast Go.Proofs.YtlbjcmiegbejdaaW.PrintLast Go.Proofs.YtlbjcmiegbejdaaW.PrintLast Go.Proofs.YtlbjcmiegbejdaaW.PrintLast Go.Proofs.YtlbjcmiegbejdaaW.PrintLast Go.Proofs.YtlbjcmiegbejdaaW.PrintLast Go.Proofs.YtlbjcmiegbejdaaW.PrintLast Go.Proofs.YtlbjcmiegbejdaaW.PrintLast Go.Proofs.YtlbjcmiegbejdaaW.PrintLast Go.Proofs.YtlbjcmiegbejdaaW.PrintLast Go.Proofs.YtlbjcmiegbejdaaW.PrintLast Go.Proofs.YtlbjcmiegbejdaaW.PrintLast
/-- The flows that row a lacks: to the members of d. -/
def lackRow (a d : Nat) : List S32 := (pfx d 64).map fun y => ⟨(a : Int), ((y.val : Nat) : Int)⟩
def lackTo {m : Nat} (C R : Nat → Nat) (pre : List (Fin m)) : List S32 := pre.flatMap fun x => lackRow x.val (C x.val &&& (18446744073709551615 - R x.val))
def flowCells (l : List S32) : List Value := l.flatMap fun f => [.int .i64 f.f0, .int .i64 f.f1]
theorem flowCells_len (l : List S32) : (flowCells l).length = l.length * 2 := by
  induction l with
  | nil => rfl
  | cons x t ih => simp only [flowCells, List.flatMap_cons, List.length_append, List.length_cons, List.length_nil] at ih ⊢; omega
theorem flowCells_app (l k : List S32) : flowCells (l ++ k) = flowCells l ++ flowCells k := List.flatMap_append
theorem lackRow_len (a d : Nat) : (lackRow a d).length ≤ 64 := by unfold lackRow; rw [List.length_map]; exact pfx_length d 64
theorem lackTo_len {m : Nat} (C R : Nat → Nat) (pre : List (Fin m)) : (lackTo C R pre).length ≤ 64 * pre.length := by
  induction pre with
  | nil => exact Nat.zero_le _
  | cons x t ih =>
    have h := lackRow_len x.val (C x.val &&& (18446744073709551615 - R x.val))
    simp only [lackTo, List.flatMap_cons, List.length_append, List.length_cons] at ih ⊢
    omega
theorem lackTo_snoc {m : Nat} (C R : Nat → Nat) (pre : List (Fin m)) (x : Fin m) : lackTo C R (pre ++ [x]) = lackTo C R pre ++ lackRow x.val (C x.val &&& (18446744073709551615 - R x.val)) := by
  simp [lackTo, List.flatMap_append]
theorem flow_reps (l : List S32) : Reps (fun (x : S32) (cs : List Value) => cs = [.int .i64 x.f0, .int .i64 x.f1]) 2 l (flowCells l) := by
  refine ⟨flowCells_len l, fun j p hj => ?_⟩
  induction l generalizing j with
  | nil => cases hj
  | cons x t ih =>
    cases j with
    | zero =>
      obtain rfl : x = p := by simpa using hj
      rfl
    | succ j =>
      have h := ih j (by simpa using hj)
      rw [show (j + 1) * 2 = j * 2 + 2 by omega]
      exact h
/-- A row of flows of one's own. -/
theorem flow_R {w : World} {base : Nat} {v : Value} {l : List S32} (h : w.ownsRow base 32 2 v l.length (flowCells l)) : Kd.R k32 32 w base (fun _ => True) v l :=
  ⟨fun _ _ => trivial, flowCells l, h, (flow_reps l).imp_ fun x cs e => by rw [e]; exact k32_mkM w base _ x⟩
/-! ### the walk -/
theorem boxed_below {W W' : World} {B : Nat} {t : TypeId} {v : Value} (h : Boxed W B t v) (hb : Below W.heap.size W W') : Boxed W' B t v := (hb.block B h.lt).trans h
theorem ownsRow_below {W W' : World} {b e s k : Nat} {v : Value} {xs : List Value} (h : W.ownsRow b e s v k xs) (hb : Below W.heap.size W W') : W'.ownsRow b e s v k xs := by
  refine ⟨h.1, ?_⟩
  rcases h.2 with h2 | ⟨g, cap, cur, e1, h1, h2, h3⟩
  · exact .inl h2
  · exact .inr ⟨g, cap, cur, e1, h1, (hb.block g (Array.getElem?_eq_some_iff.1 h2).1).trans h2, h3⟩
theorem keeps_below {W W' : World} (hb : Below W.heap.size W W') : KeepsOthers W W' := ⟨hb.size, fun k o hk _ => (hb.block k (Array.getElem?_eq_some_iff.1 hk).1).trans hk⟩
theorem infoF : (Try.prog.info? 32).map (fun i => (i.zero, i.size, i.bytes)) = some (some (.agg #[.int .i64 0, .int .i64 0]), 2, 16) := by kernel_rfl
theorem rowsI_rd (C : Nat → Nat) {n i : Nat} (hi : i < n) : rd (rowsI C n) (i : Int) = ((C i : Nat) : Int) := by simp [rd, rowsI, hi]
theorem andNot_lt {a b : Nat} (ha : a < 2 ^ 64) : a &&& (18446744073709551615 - b) < 2 ^ 64 := Nat.lt_of_le_of_lt Nat.and_le_left ha
theorem cell_two_new (w : World) (a b : Value) (t : TypeId) : ∀ j u, [a, b][j]? = some u → (w.alloc (.cells #[a, b] t)).cell? ((⟨w.heap.size, 0, none⟩ : Addr).add j) = some u := by
  intro j u hj
  match j, hj with
  | 0, hj =>
    simp at hj
    subst hj
    simp [Addr.add]
  | 1, hj =>
    simp at hj
    subst hj
    simp [Addr.add]
theorem own_addr {W : World} {b e s n c : Nat} {A : Option Addr} {xs : List Value} (hn : 0 < n) (h : W.ownsRow b e s (.slice A n c) n xs) : ∃ g, A = some ⟨g, 0, none⟩ := by
  rcases h.2 with ⟨_, h0⟩ | ⟨g, cap, _, e1, _⟩
  · omega
  · injection e1 with e2
    exact ⟨g, e2⟩
theorem rows_apart {W : World} {b1 e1 s1 k1 b2 e2 s2 k2 : Nat} {v1 v2 : Value} {x1 x2 : List Value} (he : e1 ≠ e2) (h1 : W.ownsRow b1 e1 s1 v1 k1 x1) (h2 : W.ownsRow b2 e2 s2 v2 k2 x2) : v1.ownBlock = none ∨ v1.ownBlock ≠ v2.ownBlock := by
  rcases h1.2 with ⟨rfl, _⟩ | ⟨g, cap, cur, rfl, _, hg, _⟩
  · exact .inl rfl
  · right
    rcases h2.2 with ⟨rfl, _⟩ | ⟨g2, cap2, cur2, rfl, _, hg2, _⟩
    · simp [Value.ownBlock]
    · intro h_
      obtain rfl : g = g2 := by simpa [Value.ownBlock] using h_
      have h3 := hg.symm.trans hg2
      simp at h3
      exact he h3.2
theorem Kd.int_open {w : World} {B : Nat} {ok : Nat → Prop} {p : Int} {cs : List Value} (h : (Kd.int .i64).M w B ok p cs) : cs = [.int .i64 p] := h
theorem lackRow_vals (x d : Nat) : (vals (pfx d 64)).length = (lackRow x d).length := by simp only [vals, lackRow, List.length_map]
theorem lack_cells_of (x : Nat) (q : List (Fin 64)) {w : World} {B : Nat} {ok : Nat → Prop} {cs : List Value} (h : ∀ j p, (vals q)[j]? = some p → (Kd.int .i64).M w B ok p ((cs.drop (j * 1)).take 1)) : ∀ k, k < (vals q).length → ∃ y : Int, cs[k]? = some (.int .i64 y) ∧ (q.map fun y => (⟨(x : Int), ((y.val : Nat) : Int)⟩ : S32)).take (k + 1) = (q.map fun y => (⟨(x : Int), ((y.val : Nat) : Int)⟩ : S32)).take k ++ [⟨(x : Int), y⟩] := by
  intro k hk
  have h2 : (cs.drop (k * 1)).take 1 = [.int .i64 ((vals q)[k])] := Kd.int_open (h k _ (List.getElem?_eq_getElem hk))
  have h4 : k < q.length := by simpa [vals] using hk
  refine ⟨(vals q)[k], ?_, ?_⟩
  · have h5 := congrArg (fun l : List Value => l[0]?) h2
    simpa using h5
  · rw [List.take_succ_eq_append_getElem (by rw [List.length_map]; exact h4)]
    simp [vals]
theorem lack_cells (x d : Nat) {w : World} {B : Nat} {ok : Nat → Prop} {cs : List Value} (h : ∀ j p, (vals (pfx d 64))[j]? = some p → (Kd.int .i64).M w B ok p ((cs.drop (j * 1)).take 1)) : ∀ k, k < (vals (pfx d 64)).length → ∃ y : Int, cs[k]? = some (.int .i64 y) ∧ (lackRow x d).take (k + 1) = (lackRow x d).take k ++ [⟨(x : Int), y⟩] := lack_cells_of x (pfx d 64) h
theorem wrap64n (n : Nat) (h : n ≤ 1000000) : IntKind.i64.wrap (n : Int) = (n : Int) := by rw [i64_w]; unfold Go.RowKit.wrap64; omega
/-- The body of the first loop over an iterator. -/
def rfBody : Code → Option Code
  | .rangeFunc _ _ _ b => some b
  | .seq a b => (rfBody a).or (rfBody b)
  | .block _ c => rfBody c
  | .cond _ a b => (rfBody a).or (rfBody b)
  | _ => none
set_option maxRecDepth 100000 in
set_option maxHeartbeats 4000000 in
theorem missing_r10 (l_ m c0 c2 x cx rx d pF pC pO : Nat) (ad0 ad2 : Addr) (ds : List Deferred) (t0 t2 t3 t4 t6 t9 t10 t11 t12 t13 t14 t15 t16 t17 t18 t19 t20 t21 t22 t23 t24 t25 t26 t27 t28 t29 t30 t31 t32 t33 t34 t35 t36 t37 t38 t39 t40 t41 t42 t43 t44 t45 t46 t47 t48 t49 : Value) (W : World) (ops : Array Oper) (hops : opsOf Try.f14 10 = ops) (hFc : W.cell? ⟨pF, 0, none⟩ = some (.slice (some ad0) m c0)) (hCc : W.cell? ⟨pC, 0, none⟩ = some (.slice (some ad2) m c2)) (CC : W.cell? (ad2.add x) = some (.int .u64 (cx : Int))) (CR : W.cell? (ad0.add x) = some (.int .u64 (rx : Int)))
    (hx : x < m) (hD : bits .andNot .u64 (cx : Int) (rx : Int) = (d : Int)) (hd64 : d < 2 ^ 64) :
    (Code.region 10 ops true).wpIn (Fence.wide.inRound l_) 7 Try.prog (NoPanic fun e a w' => e = .normal ∧ ∃ AL cL, ∃ wL : World, w' = wL ∧ a = { tmps := #[t0, .pointer (some ⟨pF, 0, none⟩), t2, t3, t4, .pointer (some ⟨pC, 0, none⟩), t6, .pointer (some ⟨pO, 0, none⟩), .int .i64 (x : Int), t9, t10, t11, t12, t13, t14, t15, t16, t17, t18, t19, t20, t21, t22, t23, t24, t25, t26, .slice (some ad2) m c2, .int .i64 (x : Int), .pointer (some (ad2.add x)), .int .u64 (cx : Int), .slice (some ad0) m c0, .int .i64 (x : Int), .pointer (some (ad0.add x)), .int .u64 (rx : Int), .int .u64 (d : Int), .slice AL (vals (pfx d 64)).length cL, .int .i64 ((vals (pfx d 64)).length : Nat), .int .i64 0, t39, t40, t41, t42, t43, t44, t45, t46, t47, t48, t49], defers := ds } ∧ Kd.R (Kd.int .i64) 3 wL W.heap.size (fun _ => True) (.slice AL (vals (pfx d 64)).length cL) (vals (pfx d 64)) ∧ Below W.heap.size W wL)
      { tmps := #[t0, .pointer (some ⟨pF, 0, none⟩), t2, t3, t4, .pointer (some ⟨pC, 0, none⟩), t6, .pointer (some ⟨pO, 0, none⟩), .int .i64 (x : Int), t9, t10, t11, t12, t13, t14, t15, t16, t17, t18, t19, t20, t21, t22, t23, t24, t25, t26, t27, t28, t29, t30, t31, t32, t33, t34, t35, t36, t37, t38, t39, t40, t41, t42, t43, t44, t45, t46, t47, t48, t49], defers := ds } W := by
    have hLo : ¬ LetsOut (NoPanic fun e a w' => e = Exit.normal ∧ ∃ AL cL, ∃ wL : World, w' = wL ∧ a = { tmps := #[t0, .pointer (some ⟨pF, 0, none⟩), t2, t3, t4, .pointer (some ⟨pC, 0, none⟩), t6, .pointer (some ⟨pO, 0, none⟩), .int .i64 (x : Int), t9, t10, t11, t12, t13, t14, t15, t16, t17, t18, t19, t20, t21, t22, t23, t24, t25, t26, .slice (some ad2) m c2, .int .i64 (x : Int), .pointer (some (ad2.add x)), .int .u64 (cx : Int), .slice (some ad0) m c0, .int .i64 (x : Int), .pointer (some (ad0.add x)), .int .u64 (rx : Int), .int .u64 (d : Int), .slice AL (vals (pfx d 64)).length cL, .int .i64 ((vals (pfx d 64)).length : Nat), .int .i64 0, t39, t40, t41, t42, t43, t44, t45, t46, t47, t48, t49], defers := ds } ∧ Kd.R (Kd.int .i64) 3 wL W.heap.size (fun _ => True) (.slice AL (vals (pfx d 64)).length cL) (vals (pfx d 64)) ∧ Below W.heap.size W wL) := by
      rintro ⟨_, _, h_⟩
      cases (NoPanic.imp _ _ _ h_).1
    simp [opsOf, opsIn, Try.f14] at hops
    subst hops
    have hX0 : (0 : Int) ≤ ((x : Nat) : Int) := by omega
    have hX1 : ((x : Nat) : Int) < (m : Int) := by omega
    refine start_round (n := 7) (m := 12) (S := fun w' => w'.cell? ⟨pF, 0, none⟩ = some (.slice (some ad0) m c0) ∧ w'.cell? ⟨pC, 0, none⟩ = some (.slice (some ad2) m c2) ∧ w'.cell? (ad2.add x) = some (.int .u64 ((cx : Nat) : Int)) ∧ w'.cell? (ad0.add x) = some (.int .u64 ((rx : Nat) : Int))) (ds := []) #[false, false, false, false, false, false, false, false, false, false, false, false] hLo (by kernel_rfl) (by kernel_rfl) rfl rfl ⟨hFc, hCc, CC, CR⟩ (fun hHeld => ?_)
    refine pure_ (i := 1) (N := some 28) (v := ?_) (a' := ?_) #[false, true, false, false, false, false, false, false, false, false, false, false] rfl rfl (by kernel_rfl) (fun _ _ _ h => h) (Or.inl ⟨by rfl, ?_⟩) ?_ ?_
    rotate_left
    · intro w'
      go_simp
      with_reducible rfl
    rotate_left
    · simp only [Act.put, List.setIfInBounds_toArray, List.set_cons_zero, List.set_cons_succ]
      rfl
    refine pure_ (i := 5) (N := some 32) (v := ?_) (a' := ?_) #[false, true, false, false, false, true, false, false, false, false, false, false] rfl rfl (by kernel_rfl) (fun _ _ _ h => h) (Or.inl ⟨by rfl, ?_⟩) ?_ ?_
    rotate_left
    · intro w'
      go_simp
      with_reducible rfl
    rotate_left
    · simp only [Act.put, List.setIfInBounds_toArray, List.set_cons_zero, List.set_cons_succ]
      rfl
    refine pure_ (i := 11) (N := some 38) (v := ?_) (a' := ?_) #[false, true, false, false, false, true, false, false, false, false, false, true] rfl rfl (by kernel_rfl) (fun _ _ _ h => h) (Or.inl ⟨by rfl, ?_⟩) ?_ ?_
    rotate_left
    · intro w'
      go_simp
      with_reducible rfl
    rotate_left
    · simp only [Act.put, List.setIfInBounds_toArray, List.set_cons_zero, List.set_cons_succ]
      rfl
    refine take_ (i := 0) (N := some 27) (v := ?_) (a' := ?_) #[true, true, false, false, false, true, false, false, false, false, false, true] rfl rfl (by kernel_rfl) (fun _ _ _ h => h) (Or.inl ⟨by rfl, ?_⟩) hHeld ?_ ?_
    rotate_left
    · rintro w' ⟨s0, s1, s2, s3⟩
      go_simp
      with_reducible rfl
    rotate_left
    · simp only [Act.put, List.setIfInBounds_toArray, List.set_cons_zero, List.set_cons_succ]
      rfl
    refine pure_ (i := 2) (N := some 29) (v := ?_) (a' := ?_) #[true, true, true, false, false, true, false, false, false, false, false, true] rfl rfl (by kernel_rfl) (fun _ _ _ h => h) (Or.inl ⟨by rfl, ?_⟩) ?_ ?_
    rotate_left
    · intro w'
      go_simp
      with_reducible rfl
    rotate_left
    · simp only [Act.put, List.setIfInBounds_toArray, List.set_cons_zero, List.set_cons_succ]
      rfl
    refine take_ (i := 3) (N := some 30) (v := ?_) (a' := ?_) #[true, true, true, true, false, true, false, false, false, false, false, true] rfl rfl (by kernel_rfl) (fun _ _ _ h => h) (Or.inl ⟨by rfl, ?_⟩) hHeld ?_ ?_
    rotate_left
    · rintro w' ⟨s0, s1, s2, s3⟩
      go_simp
      with_reducible rfl
    rotate_left
    · simp only [Act.put, List.setIfInBounds_toArray, List.set_cons_zero, List.set_cons_succ]
      rfl
    refine take_ (i := 4) (N := some 31) (v := ?_) (a' := ?_) #[true, true, true, true, true, true, false, false, false, false, false, true] rfl rfl (by kernel_rfl) (fun _ _ _ h => h) (Or.inl ⟨by rfl, ?_⟩) hHeld ?_ ?_
    rotate_left
    · rintro w' ⟨s0, s1, s2, s3⟩
      go_simp
      with_reducible rfl
    rotate_left
    · simp only [Act.put, List.setIfInBounds_toArray, List.set_cons_zero, List.set_cons_succ]
      rfl
    refine pure_ (i := 6) (N := some 33) (v := ?_) (a' := ?_) #[true, true, true, true, true, true, true, false, false, false, false, true] rfl rfl (by kernel_rfl) (fun _ _ _ h => h) (Or.inl ⟨by rfl, ?_⟩) ?_ ?_
    rotate_left
    · intro w'
      go_simp
      with_reducible rfl
    rotate_left
    · simp only [Act.put, List.setIfInBounds_toArray, List.set_cons_zero, List.set_cons_succ]
      rfl
    refine take_ (i := 7) (N := some 34) (v := ?_) (a' := ?_) #[true, true, true, true, true, true, true, true, false, false, false, true] rfl rfl (by kernel_rfl) (fun _ _ _ h => h) (Or.inl ⟨by rfl, ?_⟩) hHeld ?_ ?_
    rotate_left
    · rintro w' ⟨s0, s1, s2, s3⟩
      go_simp
      with_reducible rfl
    rotate_left
    · simp only [Act.put, List.setIfInBounds_toArray, List.set_cons_zero, List.set_cons_succ]
      rfl
    refine pure_ (i := 8) (N := some 35) (v := ?_) (a' := ?_) #[true, true, true, true, true, true, true, true, true, false, false, true] rfl rfl (by kernel_rfl) (fun _ _ _ h => h) (Or.inl ⟨by rfl, ?_⟩) ?_ ?_
    rotate_left
    · intro w'
      go_simp
      with_reducible rfl
    rotate_left
    · simp only [Act.put, List.setIfInBounds_toArray, List.set_cons_zero, List.set_cons_succ]
      rfl
    refine one_ (i := 9) (N := some 36) #[true, true, true, true, true, true, true, true, true, true, false, true] rfl rfl (by kernel_rfl) (by decide) (fun K hK => ?_)
    rw [if_pos (by rfl)]
    go_simp
    refine ((callsIn_wide (n := 6)).1 (list_in Fence.wide 6 trivial trivial trivial trivial trivial rfl (by decide) d hd64 _)).mono ?_
    rintro e wL ⟨vL, rfl, HL, hbL⟩
    obtain ⟨AL, cL, eL⟩ := Kd.R_slice HL
    subst eL
    refine hK.out _ _ ⟨vcell hbL hHeld.1, vcell hbL hHeld.2.1, vcell hbL hHeld.2.2.1, vcell hbL hHeld.2.2.2⟩ (fun hHeld => ?_)
    clear hK K
    refine pure_ (i := 10) (N := some 37) (v := ?_) (a' := ?_) #[true, true, true, true, true, true, true, true, true, true, true, true] rfl rfl (by kernel_rfl) (fun _ _ _ h => h) (Or.inl ⟨by rfl, ?_⟩) ?_ ?_
    rotate_left
    · intro w'
      go_simp
      with_reducible rfl
    rotate_left
    · simp only [Act.put, List.setIfInBounds_toArray, List.set_cons_zero, List.set_cons_succ]
      rfl
    refine done_ (by kernel_rfl) ?_
    exact ⟨rfl, AL, cL, _, rfl, rfl, HL, vbelow_step (vbelow_drew (Below.refl W.heap.size W)) hbL⟩

set_option maxRecDepth 100000 in
set_option maxHeartbeats 4000000 in
theorem missing_round (l_ m c0 c2 x cx rx d n0 pF pC pO pS : Nat) (vS v : Value) (L : List S32) (ad0 ad2 : Addr) (ds : List Deferred) (t0 t2 t3 t4 t6 t9 t10 t11 t12 t13 t14 t15 t16 t17 t18 t19 t20 t21 t22 t23 t24 t25 t26 t27 t28 t29 t30 t31 t32 t33 t34 t35 t36 t37 t38 t39 t40 t41 t42 t43 t44 t45 t46 t47 t48 t49 : Value) (W : World) (c : Code) (hc : Try.f14.body.bind rfBody = some c)
    (hF : Boxed W pF 22 (.slice (some ad0) m c0)) (hC : Boxed W pC 22 (.slice (some ad2) m c2)) (hS : Boxed W pS 61 vS) (hv : Boxed W pO 25 v) (hrow : W.ownsRow n0 32 2 v L.length (flowCells L)) (hnO : n0 ≤ pO) (hCO : pC ≠ pO) (hSO : pS ≠ pO) (hn0 : n0 ≤ W.heap.size) (hL : L.length ≤ 5000) (CC : W.cell? (ad2.add x) = some (.int .u64 (cx : Int))) (CR : W.cell? (ad0.add x) = some (.int .u64 (rx : Int)))
    (hx : x < m) (hD : bits .andNot .u64 (cx : Int) (rx : Int) = (d : Int)) (hd64 : d < 2 ^ 64) :
    c.wpIn (Fence.wide.inRound l_) 7 Try.prog (fun e a w' => e = .normal ∧ KeepsOthers W w' ∧ Below n0 W w' ∧ Boxed w' pC 22 (.slice (some ad2) m c2) ∧ Boxed w' pS 61 vS ∧ ∃ v', Boxed w' pO 25 v' ∧ w'.ownsRow n0 32 2 v' (L ++ lackRow x d).length (flowCells (L ++ lackRow x d)))
      { tmps := #[t0, .pointer (some ⟨pF, 0, none⟩), t2, t3, t4, .pointer (some ⟨pC, 0, none⟩), t6, .pointer (some ⟨pO, 0, none⟩), .int .i64 (x : Int), t9, t10, t11, t12, t13, t14, t15, t16, t17, t18, t19, t20, t21, t22, t23, t24, t25, t26, t27, t28, t29, t30, t31, t32, t33, t34, t35, t36, t37, t38, t39, t40, t41, t42, t43, t44, t45, t46, t47, t48, t49], defers := ds } W := by
  simp [rfBody, Try.f14] at hc
  subst hc
  obtain ⟨i0, hi, hz0, hz1, hz2⟩ := info_parts infoF
  gi_wp2
  refine wpIn_mono (missing_r10 l_ m c0 c2 x cx rx d pF pC pO ad0 ad2 ds t0 t2 t3 t4 t6 t9 t10 t11 t12 t13 t14 t15 t16 t17 t18 t19 t20 t21 t22 t23 t24 t25 t26 t27 t28 t29 t30 t31 t32 t33 t34 t35 t36 t37 t38 t39 t40 t41 t42 t43 t44 t45 t46 t47 t48 t49 W _ (by rfl) hF.cell hC.cell CC CR hx hD hd64) ?_
  intro e a w' h_
  obtain ⟨rfl, AL, cL, wL, rfl, rfl, HL, hbL⟩ := NoPanic.imp _ _ _ h_
  clear h_ hD
  have hrow1 := ownsRow_below hrow hbL
  have hC1 := boxed_below hC hbL
  have hS1 := boxed_below hS hbL
  have hv1 := boxed_below hv hbL
  have hK1 := keeps_below hbL
  have hB1 := hbL.mono hn0
  obtain ⟨-, cs, hown, hreps⟩ := HL
  have hcs := Lib.hid (lack_cells x d (fun j p hj => hreps.2 j p hj))
  have hlr := lackRow_len x d
  have hlen := lackRow_vals x d
  clear hreps hbL
  generalize hn : (vals (pfx d 64)).length = n at hown hcs hlen hlr ⊢
  clear hn
  have hlen' := Lib.hid hlen
  have hn64 : n ≤ 64 := by omega
  clear hlen hlr
  gi_wp2
  gi_loopw [38] (fun v38 w1 => ∃ k : Nat, k ≤ n ∧ v38 = .int .i64 (k : Int) ∧ KeepsOthers W w1 ∧ Below n0 W w1 ∧ Boxed w1 pC 22 (.slice (some ad2) m c2) ∧ Boxed w1 pS 61 vS ∧ w1.ownsRow W.heap.size 3 1 (.slice AL n cL) n cs ∧ ∃ v', Boxed w1 pO 25 v' ∧ w1.ownsRow n0 32 2 v' (L.length + k) (flowCells (L ++ (lackRow x d).take k)))
    (fun v38 _ => match v38 with | .int _ z => n - z.toNat | _ => 0)
  case atStart => exact ⟨0, by omega, rfl, hK1, hB1, hC1, hS1, hown, v, hv1, by rw [List.take_zero, List.append_nil]; exact hrow1⟩
  case round =>
    obtain ⟨k, hk, rfl, hKO, hBl, hC2, hS2, hown2, v2, hv2, hrow2⟩ := hrel
    by_cases hkn : k < n
    · obtain ⟨y, hy, htk⟩ := hcs.out k hkn
      have hd1 : decide ((k : Int) < (n : Int)) = true := decide_eq_true (by omega)
      obtain ⟨g, rfl⟩ := own_addr (by omega) hown2
      have hcell := (hown2.cellAt k (by omega)).trans hy
      have hcv := hv2.cell
      have hk0 : (0 : Int) ≤ (k : Int) := by omega
      have hk1 : (k : Int) < (n : Int) := by omega
      have hwr : IntKind.i64.wrap ((k : Int) + 1) = (k : Int) + 1 := wrap64n (k + 1) (by omega)
      have htl : L.length + k ≤ 5064 := by omega
      have htlh := Lib.hid htl
      have htkh := Lib.hid htk
      have hHs := Lib.hid (Nat.le_trans hn0 hBl.size)
      clear htl htk
      gi_wp2_with (gi_at_builtin; refine wpListIn_append_own _ rfl _ _ 25 rfl n0 32 i0 (.agg #[.int .i64 0, .int .i64 0]) 2 16 Try.underlying25 hi hz0 hz1 hz2 rfl (by decide) _ _ _ rfl (hrow2.alloc _) ⟨wr.heap.size, 0, none⟩ 1 1 [.int .i64 (x : Int), .int .i64 y] rfl rfl (cell_two_new _ _ _ _) (by simp [Value.oneCell']) (by have := htlh.out; unfold maxLen; omega) (by have := htlh.out; omega) (by have := hHs.out; simp; omega) ?_; intro v' w1 hown' hgrow _; obtain ⟨g', cap', rfl⟩ := ownsRow_succ hown'; obtain ⟨hv3, hv4, hr4, hk4, hb4⟩ := hv2.appended (by decide) hrow2 hHs.out hnO hown' hgrow; have hc3 := hv3.cell; have hf3 := hv3.frozen)
      have hC4 := ((hC2.alloc (.cells #[.int .i64 (x : Int), .int .i64 y] 32)).kept hgrow (hC2.not_row (by decide) hrow2)).other (B' := pO) (by omega) (.slice (some ⟨g', 0, none⟩) (L.length + k + 1) cap')
      have hS4 := ((hS2.alloc (.cells #[.int .i64 (x : Int), .int .i64 y] 32)).kept hgrow (hS2.not_row (by decide) hrow2)).other (B' := pO) (by omega) (.slice (some ⟨g', 0, none⟩) (L.length + k + 1) cap')
      have hO3 := (hown2.alloc (.cells #[.int .i64 (x : Int), .int .i64 y] 32)).kept hgrow (rows_apart (by decide) hown2 hrow2)
      have hO4 := hO3.kept (grownBy_setCell' w1 pO (.slice (some ⟨g', 0, none⟩) (L.length + k + 1) cap')) (.inr (hv3.not_row (by decide) hO3).symm)
      go_roundw
      case rel =>
        refine ⟨k + 1, hkn, rfl, hKO.trans hk4, hBl.trans hb4, hC4, hS4, hO4, _, hv4, ?_⟩
        rw [htkh.out, ← List.append_assoc, flowCells_app]
        exact hr4
      case measure =>
        show n - ((k : Int) + 1).toNat < n - (k : Int).toNat
        omega
    · have hd1 : decide ((k : Int) < (n : Int)) = false := decide_eq_false (by omega)
      obtain rfl : k = n := by omega
      have hlr2 := List.take_length (l := lackRow x d)
      rw [← hlen'.out] at hlr2
      rw [hlr2] at hrow2
      have hrow3 := Lib.hid hrow2
      clear hlr2 hrow2
      gi_wp2
      exact ⟨v2, hv2, by rw [← hlen'.out]; exact hrow3.out⟩
theorem ownsRow_mono {W : World} {b b' e s k : Nat} {v : Value} {xs : List Value} (h : W.ownsRow b e s v k xs) (hb : b' ≤ b) : W.ownsRow b' e s v k xs := by
  refine ⟨h.1, ?_⟩
  rcases h.2 with h2 | ⟨g, cap, cur, e1, h1, h2⟩
  · exact .inl h2
  · exact .inr ⟨g, cap, cur, e1, Nat.le_trans hb h1, h2⟩
set_option maxRecDepth 100000 in
set_option maxHeartbeats 4000000 in
theorem missing_ok (A0 : Option Addr) (c0 : Nat) (l0 : List Int) (w : World) (hr0 : Kd.C (Kd.int .u64) w A0 l0.length l0) (hc0 : l0.length ≤ c0) (hU : okUb l0 = true) (hn16 : l0.length ≤ 16) (ht : lattice_shape.f l0 = some 0) (C R : Nat → Nat) (hR : R = rowsF l0) (hC64 : ∀ i, C i < 2 ^ 64) (hcl : bits_Closure.f l0 = some (rowsI C l0.length, 0)) :
    Calls Try.prog 14 #[.slice A0 l0.length c0] w fun e w' => ∃ v0_ : Value, e = .returned (.tuple #[v0_, .int .i64 0]) ∧ Kd.R k32 32 w' w.heap.size (fun _ => True) v0_ (lackTo C R (labs l0.length l0.length)) ∧ Below w.heap.size w w' := by
  have hl := okU_of hU
  have hR64 : ∀ i, R i < 2 ^ 64 := by rw [hR]; exact rowsF_lt hl
  have hRh := Lib.hid hR
  clear hR
  obtain ⟨i0, hi, hz0, hz1, hz2⟩ := info_parts infoF
  have hRW := Kd.C_alloc hr0 (.cells #[.slice A0 l0.length c0] 22)
  refine (callsIn_wide (n := 9)).1 ?_
  have f43 : Fence.wide.fn 43 := trivial
  have f44 : Fence.wide.fn 44 := trivial
  have f45 : Fence.wide.fn 45 := trivial
  have bF0 := Boxed.new w 22 (.slice A0 l0.length c0)
  refine callsIn_of_wp_marks Try.func14 rfl trivial ?_ rfl
  simp only [Try.ntmps14, List.size_toArray, List.length_cons, List.length_nil, Nat.reduceAdd, Nat.reduceSub, Array.replicate_succ, Array.replicate_zero, List.push_toArray, List.append_toArray, List.nil_append, List.cons_append]
  gi_wp2_with (gi_at_call 43; refine ((callsIn_wide (n := 8)).2 (lattice_shape.calls A0 c0 l0 0 _ hRW hc0 ht)).mono ?_; rintro e w1 ⟨rfl, hb1⟩; have bF1 := boxed_below bF0 hb1; have bF1c := bF1.cell; have hRW1 := Kd.C_below hRW hb1)
  refine ((callsIn_wide (n := 8)).2 (bits_Closure.calls A0 c0 l0 _ 0 _ hRW1 hc0 hcl)).mono ?_
  rintro e w2 ⟨v2, rfl, HR2, hb2⟩
  obtain ⟨A2, c2, e2⟩ := Kd.R_slice HR2
  subst e2
  have HC2 := (Kd.R_reads' HR2).2.2
  have hc2 := (Kd.R_reads' HR2).2.1
  rw [rowsI_len] at HC2 hc2 ⊢
  have bF2 := boxed_below bF1 hb2
  have bF2c := bF2.cell
  have hRW2 := Kd.C_below hRW1 hb2
  have hz12 := hb2.size
  have hlt2 : w.heap.size < w2.heap.size := bF2.lt
  have bF2a := ((bF2.alloc (.cells #[.slice A2 l0.length c2] 22)).alloc (.cells #[.slice none 0 0] 25)).cell
  have hz01 : w.heap.size + 1 ≤ w1.heap.size := by have h_ := hb1.size; simpa using h_
  gi_wp2_with (gi_at_call 45; refine (labels_in Fence.wide 8 trivial rfl _ _ _ _).mono ?_; rintro e w' ⟨rfl, rfl⟩)
  have bC3 : Boxed (((w2.alloc (.cells #[.slice A2 l0.length c2] 22)).alloc (.cells #[.slice none 0 0] 25)).alloc (.cells #[.slice A0 l0.length c0] 61)) w2.heap.size 22 (.slice A2 l0.length c2) := ((Boxed.new w2 22 (.slice A2 l0.length c2)).alloc _).alloc _
  have bO3 : Boxed (((w2.alloc (.cells #[.slice A2 l0.length c2] 22)).alloc (.cells #[.slice none 0 0] 25)).alloc (.cells #[.slice A0 l0.length c0] 61)) (w2.heap.size + 1) 25 (.slice none 0 0) := by
    have h_ := (Boxed.new (w2.alloc (.cells #[.slice A2 l0.length c2] 22)) 25 (.slice none 0 0)).alloc (.cells #[.slice A0 l0.length c0] 61)
    rw [World.size_alloc] at h_
    exact h_
  have bS3 : Boxed (((w2.alloc (.cells #[.slice A2 l0.length c2] 22)).alloc (.cells #[.slice none 0 0] 25)).alloc (.cells #[.slice A0 l0.length c0] 61)) (w2.heap.size + 1 + 1) 61 (.slice A0 l0.length c0) := by
    have h_ := Boxed.new ((w2.alloc (.cells #[.slice A2 l0.length c2] 22)).alloc (.cells #[.slice none 0 0] 25)) 61 (.slice A0 l0.length c0)
    simp only [World.size_alloc] at h_
    exact h_
  have bF3 : Boxed (((w2.alloc (.cells #[.slice A2 l0.length c2] 22)).alloc (.cells #[.slice none 0 0] 25)).alloc (.cells #[.slice A0 l0.length c0] 61)) w.heap.size 22 (.slice A0 l0.length c0) := ((bF2.alloc _).alloc _).alloc _
  have hB3 : Below w2.heap.size w2 (((w2.alloc (.cells #[.slice A2 l0.length c2] 22)).alloc (.cells #[.slice none 0 0] 25)).alloc (.cells #[.slice A0 l0.length c0] 61)) := vbelow_alloc (vbelow_alloc (vbelow_alloc (Below.refl _ _) _) _) _
  refine wpIn_rangeFunc_ownG rfl (by omega) (gf := 70) (lb := #[.pointer (some ⟨w2.heap.size + 1 + 1, 0, none⟩)]) rfl trivial (enters_of Try.func70 (by kernel_rfl) rfl)
    (labels_stops Fence.wide 8 trivial rfl (by omega) (w2.heap.size + 1 + 1) l0.length c0 A0 (by omega) _ (by simp) bS3.cell) KC_t (KC_b (by simp)) (Below.refl _ _) (fun _ => rfl)
    (fun pre W => Boxed W w.heap.size 22 (.slice A0 l0.length c0) ∧ Boxed W w2.heap.size 22 (.slice A2 l0.length c2) ∧ (∃ v, Boxed W (w2.heap.size + 1) 25 v ∧ W.ownsRow w2.heap.size 32 2 v (lackTo C R pre).length (flowCells (lackTo C R pre)) ∧ True) ∧ Boxed W (w2.heap.size + 1 + 1) 61 (.slice A0 l0.length c0) ∧ Below w2.heap.size w2 W)
    (fun _ _ _ => False)
    (OwnFrom.and (Own.from (boxed_own _ _ (fun _ => .slice A0 l0.length c0)) _) (OwnFrom.and (Own.from (boxed_own _ _ (fun _ => .slice A2 l0.length c2)) _) (OwnFrom.and (Own.from (holdsRow_own w2.heap.size (w2.heap.size + 1) 25 32 2 (fun pre : List (Fin l0.length) => (lackTo C R pre).length) (fun pre => flowCells (lackTo C R pre)) (fun pre v => True)) _) (OwnFrom.and (Own.from (boxed_own _ _ (fun _ => .slice A0 l0.length c0)) _) (ownFrom_below (Nat.le_refl _) (by simp; omega))))))
    (fun _ _ _ _ _ hs _ _ => hs)
    ⟨bF3, bC3, ⟨_, bO3, World.ownsRow_nil _ _ _ _, trivial⟩, bS3, hB3⟩
    (fun x => { tmps := #[.slice A0 l0.length c0, .pointer (some ⟨w.heap.size, 0, none⟩), .slice none 0 0, .int .i64 0, .int .i64 0, .pointer (some ⟨w2.heap.size, 0, none⟩), .int .i64 0, .pointer (some ⟨w2.heap.size + 1, 0, none⟩), .int .i64 ((x : Fin l0.length).val : Nat), undef, undef, .slice A0 l0.length c0, .int .i64 0, .int .i64 0, .bool false, undef, .tuple #[.slice A2 l0.length c2, .int .i64 0], .slice A0 l0.length c0, .tuple #[.slice A2 l0.length c2, .int .i64 0], .slice A2 l0.length c2, .int .i64 0, .int .i64 0, .bool false, undef, .slice A0 l0.length c0, .func (.func 70) #[] #[.pointer (some ⟨w2.heap.size + 1 + 1, 0, none⟩)], .int .i64 (x.val : Nat), undef, undef, undef, undef, undef, undef, undef, undef, undef, undef, undef, undef, undef, undef, undef, undef, undef, undef, undef, undef, undef, undef, undef], defers := [] }) ?assign ?body ?done ?stop
  case assign =>
    intro l_ x W K hK
    gi_wp2
    exact hK
  case body =>
    rintro l_ pre x W ⟨hF, hCb, ⟨v, hv, hrow, -⟩, hS, hB⟩ hlt
    obtain ⟨ad2, e2, CC⟩ := Kd.at_int (Kd.C_below HC2 hB) (x.val : Int) (by omega) (by have := x.2; omega)
    obtain ⟨ad0, e0, CR⟩ := Kd.at_int (Kd.C_below hRW2 hB) (x.val : Int) (by omega) (by have := x.2; omega)
    rw [rowsI_rd C x.2, Int.toNat_natCast] at CC
    rw [row_is hl x.2, ← hRh.out, Int.toNat_natCast] at CR
    subst e2
    subst e0
    have hsn := lackTo_snoc C R pre x
    have hln := lackTo_len C R pre
    refine wpIn_mono (missing_round l_ l0.length c0 c2 x.val (C x.val) (R x.val) _ w2.heap.size w.heap.size w2.heap.size (w2.heap.size + 1) (w2.heap.size + 1 + 1) _ v (lackTo C R pre) ad0 ad2 [] _ _ _ _ _ _ _ _ _ _ _ _ _ _ _ _ _ _ _ _ _ _ _ _ _ _ _ _ _ _ _ _ _ _ _ _ _ _ _ _ _ _ _ _ _ _ W _ (by rfl) hF hCb hS hv hrow (by omega) (by omega) (by omega) hB.size (by omega) CC CR x.2 (andNot_u64 (hC64 x.val) (hR64 x.val)) (andNot_lt (hC64 _))) ?_
    rintro e a w' ⟨rfl, hKO, hB', hC', hS', v', hv', hrow'⟩
    exact ⟨hKO.from _, KC_of hS hS', (hB'.block _ hlt2).trans hF, hC', ⟨v', hv', by rw [hsn]; exact hrow', trivial⟩, hS', hB.trans hB'⟩
  case done =>
    rintro D ys W hD rfl ⟨hF, hCb, ⟨v, hv, hrow, -⟩, hS, hB⟩ hK
    have hc := hv.cell
    gi_wp2
    refine ⟨by simp, .inl ⟨_, _, rfl, run_takeDeferred hK, ?_⟩⟩
    exact ⟨_, results_tmp2 rfl _ _ _, v, rfl, flow_R (ownsRow_mono (ownsRow_putObj hrow _ hK rfl) (by omega)), (vbelow_step (vbelow_step (vbelow_step (vbelow_alloc (Below.refl _ _) _) hb1) hb2) hB).trans (belowK_b (w := w) (Nat.le_refl _) W D _ _ (by simp at hD; omega) hK rfl rfl)⟩
  case stop =>
    rintro D c_ pre W _ _ h _
    exact h.elim
end Go.Proofs.Ytlbjcmiegbejdaa.Q

/- Layer 2: what flows lack, in the printed form. -/
namespace Go.Proofs.Ytlbjcmiegbejdaa.Q
open Go.RowKit Go.Shelf Bm
attribute [local go_sem] Oper.semAt_some
set_option linter.unusedVariables false
set_option linter.unusedSimpArgs false
open Go.Proofs.YtlbjcmiegbejdaaW.PrintWords Go.Proofs.YtlbjcmiegbejdaaW.PrintMore Go.Proofs.YtlbjcmiegbejdaaW.PrintLast
set_option maxRecDepth 100000 in
set_option maxHeartbeats 4000000 in
theorem missing_no (A0 : Option Addr) (c0 : Nat) (l0 : List Int) (e : Int) (w : World) (hr0 : Kd.C (Kd.int .u64) w A0 l0.length l0) (hc0 : l0.length ≤ c0) (ht : lattice_shape.f l0 = some e) (he : e ≠ 0) :
    Calls Try.prog 14 #[.slice A0 l0.length c0] w fun e_ w' => e_ = .returned (.tuple #[.slice none 0 0, .int .i64 e]) ∧ Below w.heap.size w w' := by
  have hRW := Kd.C_alloc hr0 (.cells #[.slice A0 l0.length c0] 22)
  refine (callsIn_wide (n := 9)).1 ?_
  have f43 : Fence.wide.fn 43 := trivial
  have hne : (e != 0) = true := bne_iff_ne.2 he
  refine callsIn_of_wp_marks Try.func14 rfl trivial ?_ rfl
  simp only [Try.ntmps14, List.size_toArray, List.length_cons, List.length_nil, Nat.reduceAdd, Nat.reduceSub, Array.replicate_succ, Array.replicate_zero, List.push_toArray, List.append_toArray, List.nil_append, List.cons_append]
  gi_wp2_with (gi_at_call 43; refine ((callsIn_wide (n := 8)).2 (lattice_shape.calls A0 c0 l0 e _ hRW hc0 ht)).mono ?_; rintro e w1 ⟨rfl, hb1⟩)
  exact ⟨_, results_tmp2 rfl _ _ _, rfl, vbelow_step (vbelow_alloc (Below.refl _ _) _) hb1⟩
/-- What the closure has. -/
def closureF (l : List Int) : Nat → Nat := wouter (rowsF l) l.length l.length
def lattice_Missing.f (l : List Int) : Option (List S32 × Int) :=
  if okUb l then (lattice_shape.f l).bind fun e => if e = 0 then some (lackTo (closureF l) (rowsF l) (labs l.length l.length), 0) else some ([], e) else none
theorem shape_zero {l : List Int} (h : lattice_shape.f l = some 0) : l.length ≤ 16 ∧ 0 < l.length ∧ okUb l = true ∧ (ofR l).2.2 = 0 := by
  unfold lattice_shape.f at h
  split at h
  · cases h
  · next h1 =>
    split at h
    · cases h
    · next h2 =>
      unfold bits_Check.f at h
      split at h
      · next h3 =>
        simp only [Option.bind_some, Option.some.injEq] at h
        exact ⟨by omega, by omega, h3, h⟩
      · cases h
theorem shape_closure {l : List Int} (h : lattice_shape.f l = some 0) : bits_Closure.f l = some (rowsI (closureF l) l.length, 0) := by
  obtain ⟨_, _, h1, h2⟩ := shape_zero h
  unfold bits_Closure.f closureF
  rw [if_pos h1, if_pos h2]
theorem closure_lt {l : List Int} (h : lattice_shape.f l = some 0) (i : Nat) : closureF l i < 2 ^ 64 := by
  obtain ⟨h16, _, h1, _⟩ := shape_zero h
  exact wouter_lt (by omega) (rowsF_lt (okU_of h1)) _ _
theorem lattice_Missing.calls (A0 : Option Addr) (c0 : Nat) (l0 : List Int) (r1 : List S32) (r2 : Int) (w : World) (hr0 : Kd.C (Kd.int .u64) w A0 l0.length l0) (hc0 : l0.length ≤ c0) (h : lattice_Missing.f l0 = some (r1, r2)) :
    Calls Try.prog 14 #[.slice A0 l0.length c0] w fun e w' => ∃ v0_ : Value, e = .returned (.tuple #[v0_, .int .i64 r2]) ∧ Kd.R k32 32 w' w.heap.size (fun _ => True) v0_ r1 ∧ Below w.heap.size w w' := by
  unfold lattice_Missing.f at h
  split at h
  · next hU =>
    cases hs : lattice_shape.f l0 with
    | none => rw [hs] at h; cases h
    | some e =>
      rw [hs, Option.bind_some] at h
      by_cases he : e = 0
      · subst he
        rw [if_pos rfl] at h
        injection h with h
        injection h with h1 h2
        subst h1
        subst h2
        exact missing_ok A0 c0 l0 w hr0 hc0 hU (shape_zero hs).1 hs (closureF l0) (rowsF l0) rfl (closure_lt hs) (shape_closure hs)
      · rw [if_neg he] at h
        injection h with h
        injection h with h1 h2
        subst h1
        subst h2
        refine (missing_no A0 c0 l0 e w hr0 hc0 hs he).mono ?_
        rintro e_ w' ⟨rfl, hb⟩
        exact ⟨_, rfl, flow_R (World.ownsRow_nil _ _ _ _), hb⟩
  · cases h
end Go.Proofs.Ytlbjcmiegbejdaa.Q
