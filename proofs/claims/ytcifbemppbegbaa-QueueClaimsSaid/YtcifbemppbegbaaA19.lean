/- Layer 10: do: a call on a copy. -/
import Derived.Test.YtcifbemppbegbaaA16
import Derived.Test.YtcifbemppbegbaaQx3
namespace Go.Proofs.Ytcifbemppbegbaa.Q
open Go.RowKit Go.Proofs.YtcifbemppbegbaaW.PrintWords Go.Proofs.YtcifbemppbegbaaW.PrintMore Go.Proofs.YtcifbemppbegbaaW.PrintLast
set_option linter.unusedVariables false
set_option linter.unusedSimpArgs false
/-- A queue as it is read. -/
def QV (w : World) (v : Value) (l0 : List S61) (l1 : List S40) : Prop := ∃ A0 c0 A1 c1, v = .agg #[.slice A0 l0.length c0, .slice A1 l1.length c1] ∧ l0.length ≤ c0 ∧ l1.length ≤ c1 ∧ Kd.C k61 w A0 l0.length l0 ∧ Kd.C k40 w A1 l1.length l1
theorem QV.nil (w : World) : QV w (.agg #[.slice none 0 0, .slice none 0 0]) [] [] := ⟨none, 0, none, 0, rfl, Nat.le_refl _, Nat.le_refl _, Kd.C_nil _ _, Kd.C_nil _ _⟩
theorem QV.on {w w' : World} {v : Value} {l0 : List S61} {l1 : List S40} (h : QV w v l0 l1) (hb : Below w.heap.size w w') : QV w' v l0 l1 := by
  obtain ⟨A0, c0, A1, c1, e, h0, h1, h2, h3⟩ := h
  exact ⟨A0, c0, A1, c1, e, h0, h1, Kd.C_below h2 hb, Kd.C_below h3 hb⟩
theorem two_blocks (w : World) (o1 o2 : Obj) : ((w.alloc o1).alloc o2).heap[w.heap.size]? = some o1 ∧ ((w.alloc o1).alloc o2).heap[w.heap.size + 1]? = some o2 ∧ ((w.alloc o1).alloc o2).heap.size = w.heap.size + 1 + 1 ∧ Below w.heap.size w ((w.alloc o1).alloc o2) := by
  refine ⟨heap_on (World.alloc_heap_new w o1) (vbelow_alloc (Below.refl _ _) o2), ?_, by rw [World.size_alloc, World.size_alloc], vbelow_alloc (vbelow_alloc (Below.refl _ _) _) _⟩
  have := heap_alloc_new (w.alloc o1) o2
  rwa [World.size_alloc] at this
set_option maxRecDepth 100000 in
set_option maxHeartbeats 4000000 in
theorem do_bad (fv : Value) (lane : Int) (k : Nat) (t : Int) {v : Value} {l0 : List S61} {l1 : List S40} {w : World} (h : QV w v l0 l1) (hk : queue_Check.f k l0 l1 = some t) (ht : t ≠ 0) : Calls Try.prog 29 #[v, .int .i64 lane, fv] w fun e w' => e = .returned (.tuple #[.agg #[.slice none 0 0, .slice none 0 0], .int .i64 100]) ∧ Below w.heap.size w w' := by
  have t1 : (t != 0) = true := bne_iff_ne.2 ht
  have t2 : decide (t ≠ 0) = true := decide_eq_true ht
  obtain ⟨A0, c0, A1, c1, rfl, h0, h1, hC0, hC1⟩ := h
  go_enter Try.func29, Try.ntmps29
  go_wp2_with fail
  obtain ⟨q1, q2, qz, hBB⟩ := two_blocks w (.cells #[.slice A0 l0.length c0, .slice A1 l1.length c1] 25) (.cells #[.slice none 0 0, .slice none 0 0] 25)
  have hC0' := Kd.C_below hC0 hBB
  have hC1' := Kd.C_below hC1 hBB
  clear hC0 hC1
  generalize (w.alloc (.cells #[.slice A0 l0.length c0, .slice A1 l1.length c1] 25)).alloc (.cells #[.slice none 0 0, .slice none 0 0] 25) = w2 at q1 q2 qz hBB hC0' hC1' ⊢
  refine (queue_Check.calls k A0 c0 l0 A1 c1 l1 t w2 hC0' h0 hC1' h1 hk).mono ?_
  rintro e w3 ⟨rfl, hb3⟩
  have q1 := heap_on q1 hb3
  have q2 := heap_on q2 hb3
  have hB3 := vbelow_step hBB hb3
  have hz3 := hb3.size
  have hC0 := Kd.C_below hC0' hb3
  have hC1 := Kd.C_below hC1' hb3
  clear hC0' hC1' hb3 hBB
  obtain ⟨a0, a1, _⟩ := blk2 q1
  obtain ⟨b0, b1, bF⟩ := blk2 q2
  have bF0 := bF 0
  have bF1 := bF 1
  clear bF
  go_wp2_with fail
  refine bodyPost_ret (results_ct rfl _ _ (w.heap.size + 1) 25 #[.slice none 0 0, .slice none 0 0] (0, 0) _ rfl (put2 q2 _ _) Try.underlying25 rfl (by kernel_rfl)) rfl ?_
  exact ⟨rfl, vbelow_set (vbelow_set hB3 (Nat.le_succ _)) (Nat.le_succ _)⟩
set_option maxRecDepth 100000 in
set_option maxHeartbeats 4000000 in
theorem do_range (fv : Value) (lane : Int) (k : Nat) {v : Value} {l0 : List S61} {l1 : List S40} {w : World} (h : QV w v l0 l1) (hk : queue_Check.f k l0 l1 = some 0) (hl : lane < 0 ∨ (l0.length : Int) ≤ lane) : Calls Try.prog 29 #[v, .int .i64 lane, fv] w fun e w' => e = .returned (.tuple #[.agg #[.slice none 0 0, .slice none 0 0], .int .i64 5]) ∧ Below w.heap.size w w' := by
  have hlh := Lib.hid hl
  clear hl
  obtain ⟨A0, c0, A1, c1, rfl, h0, h1, hC0, hC1⟩ := h
  go_enter Try.func29, Try.ntmps29
  go_wp2_with fail
  obtain ⟨q1, q2, qz, hBB⟩ := two_blocks w (.cells #[.slice A0 l0.length c0, .slice A1 l1.length c1] 25) (.cells #[.slice none 0 0, .slice none 0 0] 25)
  have hC0' := Kd.C_below hC0 hBB
  have hC1' := Kd.C_below hC1 hBB
  clear hC0 hC1
  generalize (w.alloc (.cells #[.slice A0 l0.length c0, .slice A1 l1.length c1] 25)).alloc (.cells #[.slice none 0 0, .slice none 0 0] 25) = w2 at q1 q2 qz hBB hC0' hC1' ⊢
  refine (queue_Check.calls k A0 c0 l0 A1 c1 l1 0 w2 hC0' h0 hC1' h1 hk).mono ?_
  rintro e w3 ⟨rfl, hb3⟩
  have q1 := heap_on q1 hb3
  have q2 := heap_on q2 hb3
  have hB3 := vbelow_step hBB hb3
  have hz3 := hb3.size
  have hC0 := Kd.C_below hC0' hb3
  have hC1 := Kd.C_below hC1' hb3
  clear hC0' hC1' hb3 hBB
  obtain ⟨a0, a1, _⟩ := blk2 q1
  obtain ⟨b0, b1, bF⟩ := blk2 q2
  have bF0 := bF 0
  have bF1 := bF 1
  clear bF
  by_cases hneg : lane < 0
  · have t3 : decide (lane < 0) = true := decide_eq_true hneg
    go_wp2_with fail
    refine bodyPost_ret (results_ct rfl _ _ (w.heap.size + 1) 25 #[.slice none 0 0, .slice none 0 0] (0, 0) _ rfl (put2 q2 _ _) Try.underlying25 rfl (by kernel_rfl)) rfl ?_
    exact ⟨rfl, vbelow_set (vbelow_set hB3 (Nat.le_succ _)) (Nat.le_succ _)⟩
  · have t3 : decide (lane < 0) = false := decide_eq_false hneg
    have t4 : decide ((l0.length : Int) ≤ lane) = true := decide_eq_true (by have := hlh.out; omega)
    have t5 : decide (lane ≥ (l0.length : Int)) = true := t4
    go_wp2_with fail
    refine bodyPost_ret (results_ct rfl _ _ (w.heap.size + 1) 25 #[.slice none 0 0, .slice none 0 0] (0, 0) _ rfl (put2 q2 _ _) Try.underlying25 rfl (by kernel_rfl)) rfl ?_
    exact ⟨rfl, vbelow_set (vbelow_set hB3 (Nat.le_succ _)) (Nat.le_succ _)⟩
/-- What holds lanes, numbers and messages stands. -/
def KQ (W W' : World) : Prop := ∀ (k : Nat) (cells : Array Value) (t : TypeId), t = 61 ∨ t = 3 ∨ t = 40 → W.heap[k]? = some (.cells cells t (0, 0)) → W'.heap[k]? = W.heap[k]?
theorem KQ.rfl' (W : World) : KQ W W := fun _ _ _ _ _ => rfl
theorem KQ.K3 {W W' : World} (h : KQ W W') : K3 W W' := fun k cells hk => h k cells 3 (.inr (.inl rfl)) hk
theorem KQ.trans {W W1 W2 : World} (h : KQ W W1) (h' : KQ W1 W2) : KQ W W2 := fun k cells t ht hk => (h' k cells t ht ((h k cells t ht hk).trans hk)).trans (h k cells t ht hk)
theorem KQ.on {W W1 : World} (h : Below W.heap.size W W1) : KQ W W1 := fun k _ _ _ hk => h.block k (Array.getElem?_eq_some_iff.1 hk).1
theorem KQ.set {W : World} {g t : Nat} {cells : Array Value} (hg : W.heap[g]? = some (.cells cells t (0, 0))) (h1 : t ≠ 61 ∧ t ≠ 3 ∧ t ≠ 40) (j : Nat) (u : Value) : KQ W (W.setCell ⟨g, j, none⟩ u) := fun k cs q hq hk => Below.heap_setCell W ⟨g, j, none⟩ u k (fun e => by
  have e' : k = g := e
  subst e'
  rw [hk] at hg
  injection hg with hg
  injection hg with _ hg
  subst hg
  rcases hq with h | h | h
  · exact h1.1 h
  · exact h1.2.1 h
  · exact h1.2.2 h)
theorem Rd.KQ {W W' : World} {gl : Nat} {xs : List S61} (h : Rd W gl xs) (hk : KQ W W') : Rd W' gl xs := by
  obtain ⟨cur, h1, _⟩ := id h
  exact h.move (hk gl cur 61 (.inl rfl) h1) hk.K3
theorem R40_KQ {W W' : World} {B : Nat} {v : Value} {l : List S40} (h : k40.R 40 W B (fun _ => True) v l) (hk : KQ W W') : k40.R 40 W' B (fun _ => True) v l := Kd.R_mono (Kd.R_move (Kd.R_bound h) (fun k hk' => by
    obtain ⟨_, _, _, q, hq, cells, hc⟩ := hk'
    exact hk k cells q (.inr (.inr ((by decide : ∀ q, q ∈ (40 : Nat) :: k40.E → q = 40) q hq))) hc)) (fun _ hk => hk.1)
/-- A queue that is told: it stands as long as what holds lanes, numbers and messages does. -/
def QO (w : World) (v : Value) (l0 : List S61) (l1 : List S40) : Prop := ∃ A0 c0 A1 c1, v = .agg #[.slice A0 l0.length c0, .slice A1 l1.length c1] ∧ l0.length ≤ c0 ∧ l1.length ≤ c1 ∧ ∀ W', KQ w W' → Kd.C k61 W' A0 l0.length l0 ∧ Kd.C k40 W' A1 l1.length l1
theorem QO.nil (w : World) : QO w (.agg #[.slice none 0 0, .slice none 0 0]) [] [] := ⟨none, 0, none, 0, rfl, Nat.le_refl _, Nat.le_refl _, fun _ _ => ⟨Kd.C_nil _ _, Kd.C_nil _ _⟩⟩
theorem QO.move {w w' : World} {v : Value} {l0 : List S61} {l1 : List S40} (h : QO w v l0 l1) (hk : KQ w w') : QO w' v l0 l1 := by
  obtain ⟨A0, c0, A1, c1, e, h0, h1, h2⟩ := h
  exact ⟨A0, c0, A1, c1, e, h0, h1, fun W' hk' => h2 W' (hk.trans hk')⟩
theorem QO.qv {w : World} {v : Value} {l0 : List S61} {l1 : List S40} (h : QO w v l0 l1) : QV w v l0 l1 := by
  obtain ⟨A0, c0, A1, c1, e, h0, h1, h2⟩ := h
  exact ⟨A0, c0, A1, c1, e, h0, h1, (h2 w (KQ.rfl' w)).1, (h2 w (KQ.rfl' w)).2⟩
/-- What a call of the function value leaves. -/
def BoxOut (w : World) (p : Nat) (r0 : List S61) (r1 : List S40) : Prop := ∃ A0 c0 A1 c1, w.heap[p]? = some (.cells #[.slice A0 r0.length c0, .slice A1 r1.length c1] 72 (0, 0)) ∧ r0.length ≤ c0 ∧ r1.length ≤ c1 ∧ ∀ W', KQ w W' → Kd.C k61 W' A0 r0.length r0 ∧ Kd.C k40 W' A1 r1.length r1
set_option maxRecDepth 100000 in
set_option maxHeartbeats 4000000 in
theorem do_run (fn : Nat) (caps : Array Value) (i k : Nat) (err : Int) (r0 : List S61) (r1 : List S40) {v : Value} {l0 : List S61} {l1 : List S40} {w : World} (h : QV w v l0 l1) (hk : queue_Check.f k l0 l1 = some 0) (hi : i < l0.length) (hn0 : l0.length ≤ 10000) (hn1 : l1.length ≤ 1000) (hf : ∀ x ∈ l0, x.f3.length ≤ 1000000) (hcf : ∀ (p : Nat) (W : World), (callFunc fn (#[.pointer (some ⟨p, 0, none⟩), .int .i64 (i : Int)] ++ caps)).run Try.prog W = .ok (.enter fn (#[.pointer (some ⟨p, 0, none⟩), .int .i64 (i : Int)] ++ caps)) W) (hne : err ≠ 0 → r0 = [] ∧ r1 = []) (hbody : ∀ (B : Nat) (W : World) (p gl cv gm : Nat), w.heap.size ≤ B → B ≤ W.heap.size → Below w.heap.size w W → Mine B W p gl cv gm l0 l1 → Calls Try.prog fn (#[.pointer (some ⟨p, 0, none⟩), .int .i64 (i : Int)] ++ caps) W fun e w' => e = .returned (.int .i64 err) ∧ Below B W w' ∧ (err = 0 → BoxOut w' p r0 r1)) : Calls Try.prog 29 #[v, .int .i64 (i : Int), .func (.func fn) #[] caps] w fun e w' => ∃ v, e = .returned (.tuple #[v, .int .i64 err]) ∧ QO w' v r0 r1 ∧ Below w.heap.size w w' := by
  obtain ⟨A0, c0, A1, c1, rfl, h0, h1, hC0, hC1⟩ := h
  go_enter Try.func29, Try.ntmps29
  go_wp2_with fail
  obtain ⟨q1, q2, qz, hBB⟩ := two_blocks w (.cells #[.slice A0 l0.length c0, .slice A1 l1.length c1] 25) (.cells #[.slice none 0 0, .slice none 0 0] 25)
  have hC0' := Kd.C_below hC0 hBB
  have hC1' := Kd.C_below hC1 hBB
  clear hC0 hC1
  generalize (w.alloc (.cells #[.slice A0 l0.length c0, .slice A1 l1.length c1] 25)).alloc (.cells #[.slice none 0 0, .slice none 0 0] 25) = w2 at q1 q2 qz hBB hC0' hC1' ⊢
  refine (queue_Check.calls k A0 c0 l0 A1 c1 l1 0 w2 hC0' h0 hC1' h1 hk).mono ?_
  rintro e w3 ⟨rfl, hb3⟩
  have q1 := heap_on q1 hb3
  have q2 := heap_on q2 hb3
  have hB3 := vbelow_step hBB hb3
  have hz3 := hb3.size
  have hC0 := Kd.C_below hC0' hb3
  have hC1 := Kd.C_below hC1' hb3
  clear hC0' hC1' hb3 hBB
  obtain ⟨a0, a1, _⟩ := blk2 q1
  obtain ⟨b0, b1, bF⟩ := blk2 q2
  have bF0 := bF 0
  have bF1 := bF 1
  clear bF
  have t3 : decide ((i : Int) < 0) = false := decide_eq_false (by omega)
  have t4 : decide ((l0.length : Int) ≤ (i : Int)) = false := decide_eq_false (by omega)
  have t5 : decide ((i : Int) ≥ (l0.length : Int)) = false := t4
  go_wp2_with fail
  refine (own_half A0 A1 c0 c1 l0 l1 _ hC0 h0 hC1 h1 (by omega) hn0 hn1 hf).mono ?_
  rintro e w4 ⟨gl, cv, gm, rfl, hH, hM, hb4⟩
  have q2 := heap_on q2 hb4
  have hz4 := hb4.size
  have hB4 := vbelow_step hB3 hb4
  clear a0 a1 b0 b1 bF0 bF1 q1 hb4 hC0 hC1
  go_wp2_with fail
  have hbx := heap_alloc_new w4 (.cells #[.slice (some ⟨gl, 0, none⟩) l0.length cv, .slice (some ⟨gm, 0, none⟩) l1.length l1.length] 72)
  have hba := vbelow_alloc (Below.refl w4.heap.size w4) (.cells #[.slice (some ⟨gl, 0, none⟩) l0.length cv, .slice (some ⟨gm, 0, none⟩) l1.length l1.length] 72)
  have hcap : l0.length ≤ cv := by
    obtain ⟨cs, vs, hrow, _⟩ := hH
    rcases hrow.2 with ⟨h2, _⟩ | ⟨g', cap', cur, hv, h1_, hh, hle, _⟩
    · cases h2
    · injection hv with e1 e2 e3
      subst e3
      exact hle
  have hMi : Mine w3.heap.size (w4.alloc (.cells #[.slice (some ⟨gl, 0, none⟩) l0.length cv, .slice (some ⟨gm, 0, none⟩) l1.length l1.length] 72)) w4.heap.size gl cv gm l0 l1 := ⟨hbx, hz4, hcap, (hH.on hba).full (Nat.le_refl _), Kd.R_below hM hba⟩
  have q2 := heap_on q2 hba
  have hB5 := vbelow_step hB4 hba
  have hz5 := hba.size
  have hw3 : w.heap.size + 1 < w3.heap.size := by omega
  clear hH hM hB3 hB4 hba hbx
  generalize w4.heap.size = p at hMi hz4 hz5 ⊢
  generalize w4.alloc (.cells #[.slice (some ⟨gl, 0, none⟩) l0.length cv, .slice (some ⟨gm, 0, none⟩) l1.length l1.length] 72) = w5 at hMi q2 hB5 hz5 ⊢
  refine (hbody w3.heap.size w5 p gl cv gm (by omega) (by omega) hB5 hMi).mono ?_
  rintro e w6 ⟨rfl, hb6, hout⟩
  have q2 := (hb6.block _ hw3).trans q2
  have hB6 : Below w.heap.size w w6 := hB5.trans (hb6.mono (by omega))
  obtain ⟨b0, b1, bF⟩ := blk2 q2
  have bF0 := bF 0
  have bF1 := bF 1
  clear bF hbody hcf hb6 hMi
  have hS : ∀ u0 u1, Below w.heap.size w ((w6.setCell ⟨w.heap.size + 1, 0, none⟩ u0).setCell ⟨w.heap.size + 1, 1, none⟩ u1) := fun u0 u1 => vbelow_set (vbelow_set hB6 (Nat.le_succ _)) (Nat.le_succ _)
  by_cases he : err = 0
  · subst he
    obtain ⟨A2, d2, A3, d3, hp, hd2, hd3, hC⟩ := hout rfl
    obtain ⟨p0, p1, _⟩ := blk2 hp
    have t6 : ((0 : Int) != 0) = false := rfl
    clear hout hne
    go_wp2_with fail
    refine bodyPost_ret (results_ct rfl _ _ (w.heap.size + 1) 25 #[.slice A2 r0.length d2, .slice A3 r1.length d3] (0, 0) _ rfl (put2 q2 _ _) Try.underlying25 rfl (by kernel_rfl)) rfl ?_
    have hK := ((KQ.set q2 (by decide) 0 (.slice A2 r0.length d2)).trans (KQ.set (heap_put' q2) (by decide) 1 (.slice A3 r1.length d3)))
    exact ⟨_, rfl, ⟨A2, d2, A3, d3, rfl, hd2, hd3, fun W' hk' => hC W' (hK.trans hk')⟩, hS _ _⟩
  · obtain ⟨rfl, rfl⟩ := hne he
    have t6 : (err != 0) = true := bne_iff_ne.2 he
    have t7 : decide (err ≠ 0) = true := decide_eq_true he
    clear hout hne
    go_wp2_with fail
    refine bodyPost_ret (results_ct rfl _ _ (w.heap.size + 1) 25 #[.slice none 0 0, .slice none 0 0] (0, 0) _ rfl (put2 q2 _ _) Try.underlying25 rfl (by kernel_rfl)) rfl ?_
    exact ⟨_, rfl, QO.nil _, hS _ _⟩
end Go.Proofs.Ytcifbemppbegbaa.Q

/- Layer 10: Claim. -/
namespace Go.Proofs.Ytcifbemppbegbaa.Q
open Go.RowKit Go.Proofs.YtcifbemppbegbaaW.PrintWords Go.Proofs.YtcifbemppbegbaaW.PrintMore Go.Proofs.YtcifbemppbegbaaW.PrintLast
set_option linter.unusedVariables false
set_option linter.unusedSimpArgs false
theorem three_blocks (w : World) (o1 o2 o3 : Obj) : (((w.alloc o1).alloc o2).alloc o3).heap[w.heap.size]? = some o1 ∧ (((w.alloc o1).alloc o2).alloc o3).heap[w.heap.size + 1]? = some o2 ∧ (((w.alloc o1).alloc o2).alloc o3).heap[w.heap.size + 1 + 1]? = some o3 ∧ (((w.alloc o1).alloc o2).alloc o3).heap.size = w.heap.size + 1 + 1 + 1 ∧ Below w.heap.size w (((w.alloc o1).alloc o2).alloc o3) := by
  obtain ⟨h1, h2, h3, h4⟩ := two_blocks w o1 o2
  have hb := vbelow_alloc (Below.refl _ ((w.alloc o1).alloc o2)) o3
  refine ⟨heap_on h1 hb, heap_on h2 hb, ?_, by rw [World.size_alloc, h3], vbelow_alloc h4 _⟩
  have := heap_alloc_new ((w.alloc o1).alloc o2) o3
  rwa [h3] at this
theorem blk3 {W : World} {b t : Nat} {u0 u1 u2 : Value} (h : W.heap[b]? = some (.cells #[u0, u1, u2] t (0, 0))) : W.cell? ⟨b, 0, none⟩ = some u0 ∧ W.cell? ⟨b, 1, none⟩ = some u1 ∧ W.cell? ⟨b, 2, none⟩ = some u2 ∧ ∀ o, W.frozen? ⟨b, o, none⟩ = false := ⟨(cell_in h).trans rfl, (cell_in h).trans rfl, (cell_in h).trans rfl, fun o => frozen_in h⟩
theorem put3 {W : World} {g t : Nat} {u0 u1 u2 : Value} (h : W.heap[g]? = some (.cells #[u0, u1, u2] t (0, 0))) (v0 v1 v2 : Value) : (((W.setCell ⟨g, 0, none⟩ v0).setCell ⟨g, 1, none⟩ v1).setCell ⟨g, 2, none⟩ v2).heap[g]? = some (.cells #[v0, v1, v2] t (0, 0)) :=
  heap_put' (u := v2) (j := 2) (heap_put' (u := v1) (j := 1) (heap_put' (u := v0) (j := 0) h))
/-- Blocks other than bs stand. -/
structure KB (bs : List Nat) (w W : World) : Prop where
  size : w.heap.size ≤ W.heap.size
  keep : ∀ k, k < w.heap.size → k ∉ bs → W.heap[k]? = w.heap[k]?
theorem KB.refl (bs : List Nat) (w : World) : KB bs w w := ⟨Nat.le_refl _, fun _ _ _ => rfl⟩
theorem KB.alloc {bs : List Nat} {w W : World} (h : KB bs w W) (o : Obj) : KB bs w (W.alloc o) := ⟨by rw [World.size_alloc]; have := h.size; omega, fun k hk hn => (Below.heap_alloc W o k (Nat.lt_of_lt_of_le hk h.size)).trans (h.keep k hk hn)⟩
theorem KB.drew {bs : List Nat} {w W : World} (h : KB bs w W) : KB bs w W.drew := ⟨h.size, h.keep⟩
theorem KB.drewN {bs : List Nat} {w W : World} (h : KB bs w W) (n : Nat) : KB bs w (W.drewN n) := ⟨h.size, h.keep⟩
theorem KB.set {bs : List Nat} {w W : World} (h : KB bs w W) {p : Addr} (hp : p.block ∈ bs ∨ w.heap.size ≤ p.block) (u : Value) : KB bs w (W.setCell p u) := ⟨by simp [World.setCell]; exact h.size, fun k hk hn => (Below.heap_setCell W p u k (fun e => by
  subst e
  rcases hp with hp | hp
  · exact hn hp
  · omega)).trans (h.keep k hk hn)⟩
theorem KB.below {bs : List Nat} {w W W' : World} (h : KB bs w W) (hb : Below W.heap.size W W') : KB bs w W' := ⟨Nat.le_trans h.size hb.size, fun k hk hn => (hb.block k (Nat.lt_of_lt_of_le hk h.size)).trans (h.keep k hk hn)⟩
theorem KB.kq {bs : List Nat} {w W : World} (h : KB bs w W) (hbs : ∀ b ∈ bs, ∃ cells t, w.heap[b]? = some (.cells cells t (0, 0)) ∧ t ≠ 61 ∧ t ≠ 3 ∧ t ≠ 40) : KQ w W := fun k cells t ht hk => h.keep k (Array.getElem?_eq_some_iff.1 hk).1 (fun hm => by
  obtain ⟨c2, t2, h1, h2, h3, h4⟩ := hbs k hm
  rw [hk] at h1
  injection h1 with h1
  injection h1 with _ h1
  subst h1
  rcases ht with ht | ht | ht
  · exact h2 ht
  · exact h3 ht
  · exact h4 ht)
set_option maxRecDepth 100000 in
set_option maxHeartbeats 4000000 in
theorem Claim_err (lane : Int) {v : Value} {l0 : List S61} {l1 : List S40} {w : World} (h : QV w v l0 l1) (err : Int) (he : err ≠ 0) (hdo : ∀ W, Below w.heap.size w W → Calls Try.prog 29 #[v, .int .i64 lane, .func (.func 30) #[] #[]] W fun e w' => ∃ v', e = .returned (.tuple #[v', .int .i64 err]) ∧ QO w' v' [] [] ∧ Below W.heap.size W w') : Calls Try.prog 9 #[v, .int .i64 lane] w fun e w' => ∃ v', e = .returned (.tuple #[v', .agg #[.int .i64 0, .int .i64 0, .int .i64 0], .int .i64 err]) ∧ QO w' v' [] [] ∧ Below w.heap.size w w' := by
  have t1 : (err != 0) = true := bne_iff_ne.2 he
  obtain ⟨A0, c0, A1, c1, rfl, h0, h1, hC0, hC1⟩ := h
  go_enter Try.func9, Try.ntmps9
  go_wp2_with fail
  obtain ⟨q1, q2, q3, qz, hBB⟩ := three_blocks w (.cells #[.slice A0 l0.length c0, .slice A1 l1.length c1] 25) (.cells #[.slice none 0 0, .slice none 0 0] 25) (.cells #[.int .i64 0, .int .i64 0, .int .i64 0] 27)
  generalize ((w.alloc (.cells #[.slice A0 l0.length c0, .slice A1 l1.length c1] 25)).alloc (.cells #[.slice none 0 0, .slice none 0 0] 25)).alloc (.cells #[.int .i64 0, .int .i64 0, .int .i64 0] 27) = w2 at q1 q2 q3 qz hBB ⊢
  refine (hdo w2 hBB).mono ?_
  rintro e w3 ⟨v, rfl, hQ, hb3⟩
  have q1 := heap_on q1 hb3
  have q2 := heap_on q2 hb3
  have q3 := heap_on q3 hb3
  have hB3 := vbelow_step hBB hb3
  have hz3 := hb3.size
  obtain ⟨A2, d2, A3, d3, rfl, hd2, hd3, hC2⟩ := hQ
  obtain ⟨a0, a1, _⟩ := blk2 q1
  obtain ⟨b0, b1, bF⟩ := blk2 q2
  have bF0 := bF 0
  have bF1 := bF 1
  obtain ⟨g0, g1, g2, gF⟩ := blk3 q3
  have gF0 := gF 0
  have gF1 := gF 1
  have gF2 := gF 2
  have k1 : w.heap.size < w3.heap.size := by omega
  have k2 : w.heap.size + 1 < w3.heap.size := by omega
  have k3 : w.heap.size + 1 + 1 < w3.heap.size := by omega
  clear bF gF hdo hBB hb3 hC0 hC1
  go_wp2_with fail
  refine bodyPost_ret (results_list (rs := [.cell 4 25, .cell 5 27, .tmp 6]) rfl (by simp) (.cell (w.heap.size + 1) 25 #[.slice A2 0 d2, .slice A3 0 d3] (0, 0) _ rfl (by repeat (first | (with_reducible exact q2) | (with_reducible exact q3) | (with_reducible refine put3 (u0 := .int .i64 0) (u1 := .int .i64 0) (u2 := .int .i64 0) ?_ _ _ _) | (with_reducible refine put2 (u0 := .slice none 0 0) (u1 := .slice none 0 0) ?_ _ _) | (with_reducible refine blk_alloc ?_ _) | (with_reducible refine blk_drew ?_) | (with_reducible refine blk_drewN ?_ _) | (with_reducible refine blk_far ?_ (by dsimp only; omega) _))) Try.underlying25 rfl (by kernel_rfl) (.cell (w.heap.size + 1 + 1) 27 #[.int .i64 0, .int .i64 0, .int .i64 0] (0, 0) _ rfl (by repeat (first | (with_reducible exact q2) | (with_reducible exact q3) | (with_reducible refine put3 (u0 := .int .i64 0) (u1 := .int .i64 0) (u2 := .int .i64 0) ?_ _ _ _) | (with_reducible refine put2 (u0 := .slice none 0 0) (u1 := .slice none 0 0) ?_ _ _) | (with_reducible refine blk_alloc ?_ _) | (with_reducible refine blk_drew ?_) | (with_reducible refine blk_drewN ?_ _) | (with_reducible refine blk_far ?_ (by dsimp only; omega) _))) Try.underlying27 rfl (by kernel_rfl) (.tmp .nil)))) rfl ?_
  exact ⟨_, rfl, ⟨A2, d2, A3, d3, rfl, hd2, hd3, fun W' hk' => hC2 W' (KQ.trans (KB.kq (bs := [w.heap.size + 1, w.heap.size + 1 + 1]) (w := w3) (by repeat (first | (with_reducible exact KB.refl _ _) | (with_reducible refine KB.alloc ?_ _) | (with_reducible refine KB.drew ?_) | (with_reducible refine KB.drewN ?_ _) | (with_reducible refine KB.set ?_ (by first | (left; simp; done) | (right; first | exact Nat.le_refl _ | (dsimp only; omega))) _))) (fun b hb => by rcases List.mem_cons.1 hb with e | hb; (subst e; exact ⟨_, _, q2, by decide⟩); (have e := List.mem_singleton.1 hb; subst e; exact ⟨_, _, q3, by decide⟩))) hk')⟩, (by repeat (first | (with_reducible exact hB3) | (with_reducible refine vbelow_alloc ?_ _) | (with_reducible refine vbelow_drew ?_) | (with_reducible refine vbelow_drewN ?_ _) | (with_reducible refine vbelow_set ?_ (by first | exact Nat.le_refl _ | (dsimp only; omega) | omega))))⟩
set_option maxRecDepth 100000 in
set_option maxHeartbeats 4000000 in
theorem Claim_ok (i : Nat) {v : Value} {l0 r0 : List S61} {l1 r1 : List S40} {w : World} (h : QV w v l0 l1) {y : S61} (hx : r0[i]? = some y) (hy4 : 0 < y.f4 ∧ y.f4 ≤ 1099511627777) (hdo : ∀ W, Below w.heap.size w W → Calls Try.prog 29 #[v, .int .i64 (i : Int), .func (.func 30) #[] #[]] W fun e w' => ∃ v', e = .returned (.tuple #[v', .int .i64 0]) ∧ QO w' v' r0 r1 ∧ Below W.heap.size W w') : Calls Try.prog 9 #[v, .int .i64 (i : Int)] w fun e w' => ∃ v', e = .returned (.tuple #[v', .agg #[.int .i64 (i : Int), .int .i64 (y.f4 - 1), .int .i64 y.f5], .int .i64 0]) ∧ QO w' v' r0 r1 ∧ Below w.heap.size w w' := by
  have hi : i < r0.length := (List.getElem?_eq_some_iff.1 hx).1
  have hi0 : (0 : Int) ≤ (i : Int) := by omega
  have hi1 : (i : Int) < (r0.length : Int) := by omega
  have hyr : rd_T61 r0 (i : Int) = y := by
    unfold rd_T61
    rw [Int.toNat_natCast, List.getD_eq_getElem?_getD, hx]
    rfl
  have t1 : ((0 : Int) != 0) = false := rfl
  have e4 : IntKind.i64.wrap (y.f4 - 1) = y.f4 - 1 := (i64_w _).trans (w64 (by omega) (by omega))
  obtain ⟨A0, c0, A1, c1, rfl, h0, h1, hC0, hC1⟩ := h
  go_enter Try.func9, Try.ntmps9
  go_wp2_with fail
  obtain ⟨q1, q2, q3, qz, hBB⟩ := three_blocks w (.cells #[.slice A0 l0.length c0, .slice A1 l1.length c1] 25) (.cells #[.slice none 0 0, .slice none 0 0] 25) (.cells #[.int .i64 0, .int .i64 0, .int .i64 0] 27)
  generalize ((w.alloc (.cells #[.slice A0 l0.length c0, .slice A1 l1.length c1] 25)).alloc (.cells #[.slice none 0 0, .slice none 0 0] 25)).alloc (.cells #[.int .i64 0, .int .i64 0, .int .i64 0] 27) = w2 at q1 q2 q3 qz hBB ⊢
  refine (hdo w2 hBB).mono ?_
  rintro e w3 ⟨v, rfl, hQ, hb3⟩
  have q1 := heap_on q1 hb3
  have q2 := heap_on q2 hb3
  have q3 := heap_on q3 hb3
  have hB3 := vbelow_step hBB hb3
  have hz3 := hb3.size
  obtain ⟨A2, d2, A3, d3, rfl, hd2, hd3, hC2⟩ := hQ
  obtain ⟨a0, a1, _⟩ := blk2 q1
  obtain ⟨b0, b1, bF⟩ := blk2 q2
  have bF0 := bF 0
  have bF1 := bF 1
  obtain ⟨g0, g1, g2, gF⟩ := blk3 q3
  have gF0 := gF 0
  have gF1 := gF 1
  have gF2 := gF 2
  have k1 : w.heap.size < w3.heap.size := by omega
  have k2 : w.heap.size + 1 < w3.heap.size := by omega
  have k3 : w.heap.size + 1 + 1 < w3.heap.size := by omega
  clear bF gF hdo hBB hb3 hC0 hC1
  obtain ⟨ad, A4, c4, e2, m0, m1, m2, m3, m4, m5, hl4, hC4⟩ := at_T61 (hC2 w3 (KQ.rfl' w3)).1 (i : Int) hi0 hi1
  subst e2
  rw [hyr] at m0 m1 m2 m3 m4 m5
  rw [Int.toNat_natCast] at m0 m1 m2 m3 m4 m5
  have n0 := vcell_alloc m0 (.cells #[.slice (some ad) r0.length d2, .slice A3 r1.length d3] 25)
  have n1 := vcell_alloc m1 (.cells #[.slice (some ad) r0.length d2, .slice A3 r1.length d3] 25)
  have n2 := vcell_alloc m2 (.cells #[.slice (some ad) r0.length d2, .slice A3 r1.length d3] 25)
  have n3 := vcell_alloc m3 (.cells #[.slice (some ad) r0.length d2, .slice A3 r1.length d3] 25)
  have n4 := vcell_alloc m4 (.cells #[.slice (some ad) r0.length d2, .slice A3 r1.length d3] 25)
  have n5 := vcell_alloc m5 (.cells #[.slice (some ad) r0.length d2, .slice A3 r1.length d3] 25)
  clear hC4 hl4 hyr
  go_wp2_with fail
  obtain ⟨u1, u2, uz, hB4⟩ := two_blocks w3 (.cells #[.slice (some ad) r0.length d2, .slice A3 r1.length d3] 25) (.cells #[.int .i64 y.f0, .bool y.f1, .int .i64 y.f2, .slice A4 y.f3.length c4, .int .i64 y.f4, .int .i64 y.f5] 61)
  have q2 := heap_on q2 hB4
  have q3 := heap_on q3 hB4
  have hK4 := KQ.on hB4
  have hB5 := vbelow_step hB3 hB4
  have uz1 := Lib.hid uz
  clear n0 n1 n2 n3 n4 n5 m0 m1 m2 m3 m4 m5 g0 g1 g2 gF0 gF1 gF2 b0 b1 bF0 bF1 a0 a1 hB4 hB3 uz
  have k4 : w.heap.size + 1 ≠ w3.heap.size := by omega
  have k5 : w.heap.size + 1 + 1 ≠ w3.heap.size := by omega
  have k6 : w.heap.size + 1 ≠ w3.heap.size + 1 := by omega
  have k7 : w.heap.size + 1 + 1 ≠ w3.heap.size + 1 := by omega
  generalize (w3.alloc (.cells #[.slice (some ad) r0.length d2, .slice A3 r1.length d3] 25)).alloc (.cells #[.int .i64 y.f0, .bool y.f1, .int .i64 y.f2, .slice A4 y.f3.length c4, .int .i64 y.f4, .int .i64 y.f5] 61) = w5 at u1 u2 q2 q3 hB5 hK4 uz1 ⊢
  obtain ⟨b0, b1, bF⟩ := blk2 q2
  have bF0 := bF 0
  have bF1 := bF 1
  obtain ⟨g0, g1, g2, gF⟩ := blk3 q3
  have gF0 := gF 0
  have gF1 := gF 1
  have gF2 := gF 2
  obtain ⟨x0, x1, _⟩ := blk2 u1
  have y4 : w5.cell? ⟨w3.heap.size + 1, 4, none⟩ = some (.int .i64 y.f4) := (cell_in u2).trans rfl
  have y5 : w5.cell? ⟨w3.heap.size + 1, 5, none⟩ = some (.int .i64 y.f5) := (cell_in u2).trans rfl
  clear bF gF
  go_region
  all_goals go_wp2_with fail
  all_goals refine bodyPost_ret (results_list (rs := [.cell 4 25, .cell 5 27, .tmp 6]) rfl (by simp) (.cell (w.heap.size + 1) 25 #[.slice (some ad) r0.length d2, .slice A3 r1.length d3] (0, 0) _ rfl (by repeat (first | (with_reducible exact q2) | (with_reducible exact q3) | (with_reducible refine put3 (u0 := .int .i64 0) (u1 := .int .i64 0) (u2 := .int .i64 0) ?_ _ _ _) | (with_reducible refine put2 (u0 := .slice none 0 0) (u1 := .slice none 0 0) ?_ _ _) | (with_reducible refine blk_alloc ?_ _) | (with_reducible refine blk_drew ?_) | (with_reducible refine blk_drewN ?_ _) | (with_reducible refine blk_far ?_ (by dsimp only; omega) _))) Try.underlying25 rfl (by kernel_rfl) (.cell (w.heap.size + 1 + 1) 27 #[.int .i64 (i : Int), .int .i64 (y.f4 - 1), .int .i64 y.f5] (0, 0) _ rfl (by repeat (first | (with_reducible exact q2) | (with_reducible exact q3) | (with_reducible refine put3 (u0 := .int .i64 0) (u1 := .int .i64 0) (u2 := .int .i64 0) ?_ _ _ _) | (with_reducible refine put2 (u0 := .slice none 0 0) (u1 := .slice none 0 0) ?_ _ _) | (with_reducible refine blk_alloc ?_ _) | (with_reducible refine blk_drew ?_) | (with_reducible refine blk_drewN ?_ _) | (with_reducible refine blk_far ?_ (by dsimp only; omega) _))) Try.underlying27 rfl (by kernel_rfl) (.tmp .nil)))) rfl ?_
  all_goals exact ⟨_, rfl, ⟨some ad, d2, A3, d3, rfl, hd2, hd3, fun W' hk' => hC2 W' (hK4.trans (KQ.trans (KB.kq (bs := [w.heap.size + 1, w.heap.size + 1 + 1]) (w := w5) (by repeat (first | (with_reducible exact KB.refl _ _) | (with_reducible refine KB.alloc ?_ _) | (with_reducible refine KB.drew ?_) | (with_reducible refine KB.drewN ?_ _) | (with_reducible refine KB.set ?_ (by first | (left; simp; done) | (right; first | exact Nat.le_refl _ | (dsimp only; omega))) _))) (fun b hb => by rcases List.mem_cons.1 hb with e | hb; (subst e; exact ⟨_, _, q2, by decide⟩); (have e := List.mem_singleton.1 hb; subst e; exact ⟨_, _, q3, by decide⟩))) hk'))⟩, (by repeat (first | (with_reducible exact hB5) | (with_reducible refine vbelow_alloc ?_ _) | (with_reducible refine vbelow_drew ?_) | (with_reducible refine vbelow_drewN ?_ _) | (with_reducible refine vbelow_set ?_ (by first | exact Nat.le_refl _ | (dsimp only; omega) | omega))))⟩
end Go.Proofs.Ytcifbemppbegbaa.Q

/- Layer 10: Publish, Retire, Reset: the calls that are told what do tells. -/
namespace Go.Proofs.Ytcifbemppbegbaa.Q
open Go.RowKit Go.Proofs.YtcifbemppbegbaaW.PrintWords Go.Proofs.YtcifbemppbegbaaW.PrintMore Go.Proofs.YtcifbemppbegbaaW.PrintLast
set_option linter.unusedVariables false
set_option linter.unusedSimpArgs false
theorem four_blocks (w : World) (o1 o2 o3 o4 : Obj) : ((((w.alloc o1).alloc o2).alloc o3).alloc o4).heap[w.heap.size]? = some o1 ∧ ((((w.alloc o1).alloc o2).alloc o3).alloc o4).heap[w.heap.size + 1]? = some o2 ∧ ((((w.alloc o1).alloc o2).alloc o3).alloc o4).heap[w.heap.size + 1 + 1]? = some o3 ∧ ((((w.alloc o1).alloc o2).alloc o3).alloc o4).heap[w.heap.size + 1 + 1 + 1]? = some o4 ∧ ((((w.alloc o1).alloc o2).alloc o3).alloc o4).heap.size = w.heap.size + 1 + 1 + 1 + 1 ∧ Below w.heap.size w ((((w.alloc o1).alloc o2).alloc o3).alloc o4) := by
  obtain ⟨h1, h2, h3, h4, h5⟩ := three_blocks w o1 o2 o3
  have hb := vbelow_alloc (Below.refl _ (((w.alloc o1).alloc o2).alloc o3)) o4
  refine ⟨heap_on h1 hb, heap_on h2 hb, heap_on h3 hb, ?_, by rw [World.size_alloc, h4], vbelow_alloc h5 _⟩
  have := heap_alloc_new (((w.alloc o1).alloc o2).alloc o3) o4
  rwa [h4] at this
set_option maxRecDepth 100000 in
set_option maxHeartbeats 4000000 in
theorem Publish_run (lane : Int) (n ep x : Int) {v : Value} {l0 r0 : List S61} {l1 r1 : List S40} {w : World} (h : QV w v l0 l1) (err : Int) (hdo : ∀ W, Below w.heap.size w W → W.heap[w.heap.size + 1]? = some (.cells #[.int .i64 lane, .int .i64 n, .int .i64 ep] 27 (0, 0)) → W.heap[w.heap.size + 1 + 1]? = some (.cells #[.int .u64 x] 28 (0, 0)) → Calls Try.prog 29 #[v, .int .i64 lane, .func (.func 33) #[] #[.pointer (some ⟨w.heap.size + 1, 0, none⟩), .pointer (some ⟨w.heap.size + 1 + 1, 0, none⟩)]] W fun e w' => ∃ v', e = .returned (.tuple #[v', .int .i64 err]) ∧ QO w' v' r0 r1 ∧ Below W.heap.size W w') : Calls Try.prog 11 #[v, .agg #[.int .i64 lane, .int .i64 n, .int .i64 ep], .int .u64 x] w fun e w' => ∃ v', e = .returned (.tuple #[v', .int .i64 err]) ∧ QO w' v' r0 r1 ∧ Below w.heap.size w w' := by
  obtain ⟨A0, c0, A1, c1, rfl, h0, h1, hC0, hC1⟩ := h
  go_enter Try.func11, Try.ntmps11
  go_wp2_with fail
  obtain ⟨q0, q1, q2, q3, qz, hBB⟩ := four_blocks w (.cells #[.slice A0 l0.length c0, .slice A1 l1.length c1] 25) (.cells #[.int .i64 lane, .int .i64 n, .int .i64 ep] 27) (.cells #[.int .u64 x] 28) (.cells #[.slice none 0 0, .slice none 0 0] 25)
  generalize (((w.alloc (.cells #[.slice A0 l0.length c0, .slice A1 l1.length c1] 25)).alloc (.cells #[.int .i64 lane, .int .i64 n, .int .i64 ep] 27)).alloc (.cells #[.int .u64 x] 28)).alloc (.cells #[.slice none 0 0, .slice none 0 0] 25) = w2 at q0 q1 q2 q3 qz hBB ⊢
  refine (hdo w2 hBB q1 q2).mono ?_
  rintro e w3 ⟨v, rfl, hQ, hb3⟩
  have q := heap_on q3 hb3
  have hB3 := vbelow_step hBB hb3
  have hz3 := hb3.size
  obtain ⟨A2, d2, A3, d3, rfl, hd2, hd3, hC2⟩ := hQ
  obtain ⟨b0, b1, bF⟩ := blk2 q
  have bF0 := bF 0
  have bF1 := bF 1
  clear bF hdo hBB hb3 hC0 hC1
  go_wp2_with fail
  refine bodyPost_ret (results_ct rfl _ _ (w.heap.size + 1 + 1 + 1) 25 #[.slice A2 r0.length d2, .slice A3 r1.length d3] (0, 0) _ rfl (put2 q _ _) Try.underlying25 rfl (by kernel_rfl)) rfl ?_
  exact ⟨_, rfl, ⟨A2, d2, A3, d3, rfl, hd2, hd3, fun W' hk' => hC2 W' (KQ.trans (KB.kq (bs := [w.heap.size + 1 + 1 + 1]) (w := w3) (by repeat (first | (with_reducible exact KB.refl _ _) | (with_reducible refine KB.alloc ?_ _) | (with_reducible refine KB.drew ?_) | (with_reducible refine KB.drewN ?_ _) | (with_reducible refine KB.set ?_ (by first | (left; simp; done) | (right; first | exact Nat.le_refl _ | (dsimp only; omega))) _))) (fun b hb => by have e := List.mem_singleton.1 hb; subst e; exact ⟨_, _, q, by decide⟩)) hk')⟩, (by repeat (first | (with_reducible exact hB3) | (with_reducible refine vbelow_alloc ?_ _) | (with_reducible refine vbelow_drew ?_) | (with_reducible refine vbelow_drewN ?_ _) | (with_reducible refine vbelow_set ?_ (by first | exact Nat.le_refl _ | (dsimp only; omega) | omega))))⟩
set_option maxRecDepth 100000 in
set_option maxHeartbeats 4000000 in
theorem Retire_run (lane : Int) (m1 m2 m3 : Int) {v : Value} {l0 r0 : List S61} {l1 r1 : List S40} {w : World} (h : QV w v l0 l1) (err : Int) (hdo : ∀ W, Below w.heap.size w W → W.heap[w.heap.size + 1]? = some (.cells #[.int .i64 lane, .int .i64 m1, .int .i64 m2, .int .u64 m3] 40 (0, 0)) → Calls Try.prog 29 #[v, .int .i64 lane, .func (.func 38) #[] #[.pointer (some ⟨w.heap.size + 1, 0, none⟩)]] W fun e w' => ∃ v', e = .returned (.tuple #[v', .int .i64 err]) ∧ QO w' v' r0 r1 ∧ Below W.heap.size W w') : Calls Try.prog 19 #[v, .agg #[.int .i64 lane, .int .i64 m1, .int .i64 m2, .int .u64 m3]] w fun e w' => ∃ v', e = .returned (.tuple #[v', .int .i64 err]) ∧ QO w' v' r0 r1 ∧ Below w.heap.size w w' := by
  obtain ⟨A0, c0, A1, c1, rfl, h0, h1, hC0, hC1⟩ := h
  go_enter Try.func19, Try.ntmps19
  go_wp2_with fail
  obtain ⟨q0, q1, q2, qz, hBB⟩ := three_blocks w (.cells #[.slice A0 l0.length c0, .slice A1 l1.length c1] 25) (.cells #[.int .i64 lane, .int .i64 m1, .int .i64 m2, .int .u64 m3] 40) (.cells #[.slice none 0 0, .slice none 0 0] 25)
  generalize ((w.alloc (.cells #[.slice A0 l0.length c0, .slice A1 l1.length c1] 25)).alloc (.cells #[.int .i64 lane, .int .i64 m1, .int .i64 m2, .int .u64 m3] 40)).alloc (.cells #[.slice none 0 0, .slice none 0 0] 25) = w2 at q0 q1 q2 qz hBB ⊢
  refine (hdo w2 hBB q1).mono ?_
  rintro e w3 ⟨v, rfl, hQ, hb3⟩
  have q := heap_on q2 hb3
  have hB3 := vbelow_step hBB hb3
  have hz3 := hb3.size
  obtain ⟨A2, d2, A3, d3, rfl, hd2, hd3, hC2⟩ := hQ
  obtain ⟨b0, b1, bF⟩ := blk2 q
  have bF0 := bF 0
  have bF1 := bF 1
  clear bF hdo hBB hb3 hC0 hC1
  go_wp2_with fail
  refine bodyPost_ret (results_ct rfl _ _ (w.heap.size + 1 + 1) 25 #[.slice A2 r0.length d2, .slice A3 r1.length d3] (0, 0) _ rfl (put2 q _ _) Try.underlying25 rfl (by kernel_rfl)) rfl ?_
  exact ⟨_, rfl, ⟨A2, d2, A3, d3, rfl, hd2, hd3, fun W' hk' => hC2 W' (KQ.trans (KB.kq (bs := [w.heap.size + 1 + 1]) (w := w3) (by repeat (first | (with_reducible exact KB.refl _ _) | (with_reducible refine KB.alloc ?_ _) | (with_reducible refine KB.drew ?_) | (with_reducible refine KB.drewN ?_ _) | (with_reducible refine KB.set ?_ (by first | (left; simp; done) | (right; first | exact Nat.le_refl _ | (dsimp only; omega))) _))) (fun b hb => by have e := List.mem_singleton.1 hb; subst e; exact ⟨_, _, q, by decide⟩)) hk')⟩, (by repeat (first | (with_reducible exact hB3) | (with_reducible refine vbelow_alloc ?_ _) | (with_reducible refine vbelow_drew ?_) | (with_reducible refine vbelow_drewN ?_ _) | (with_reducible refine vbelow_set ?_ (by first | exact Nat.le_refl _ | (dsimp only; omega) | omega))))⟩
set_option maxRecDepth 100000 in
set_option maxHeartbeats 4000000 in
theorem Reset_run (lane : Int) {v : Value} {l0 r0 : List S61} {l1 r1 : List S40} {w : World} (h : QV w v l0 l1) (err : Int) (hdo : ∀ W, Below w.heap.size w W → Calls Try.prog 29 #[v, .int .i64 lane, .func (.func 41) #[] #[]] W fun e w' => ∃ v', e = .returned (.tuple #[v', .int .i64 err]) ∧ QO w' v' r0 r1 ∧ Below W.heap.size W w') : Calls Try.prog 21 #[v, .int .i64 lane] w fun e w' => ∃ v', e = .returned (.tuple #[v', .int .i64 err]) ∧ QO w' v' r0 r1 ∧ Below w.heap.size w w' := by
  obtain ⟨A0, c0, A1, c1, rfl, h0, h1, hC0, hC1⟩ := h
  go_enter Try.func21, Try.ntmps21
  go_wp2_with fail
  obtain ⟨q0, q1, qz, hBB⟩ := two_blocks w (.cells #[.slice A0 l0.length c0, .slice A1 l1.length c1] 25) (.cells #[.slice none 0 0, .slice none 0 0] 25)
  generalize (w.alloc (.cells #[.slice A0 l0.length c0, .slice A1 l1.length c1] 25)).alloc (.cells #[.slice none 0 0, .slice none 0 0] 25) = w2 at q0 q1 qz hBB ⊢
  refine (hdo w2 hBB).mono ?_
  rintro e w3 ⟨v, rfl, hQ, hb3⟩
  have q := heap_on q1 hb3
  have hB3 := vbelow_step hBB hb3
  have hz3 := hb3.size
  obtain ⟨A2, d2, A3, d3, rfl, hd2, hd3, hC2⟩ := hQ
  obtain ⟨b0, b1, bF⟩ := blk2 q
  have bF0 := bF 0
  have bF1 := bF 1
  clear bF hdo hBB hb3 hC0 hC1
  go_wp2_with fail
  refine bodyPost_ret (results_ct rfl _ _ (w.heap.size + 1) 25 #[.slice A2 r0.length d2, .slice A3 r1.length d3] (0, 0) _ rfl (put2 q _ _) Try.underlying25 rfl (by kernel_rfl)) rfl ?_
  exact ⟨_, rfl, ⟨A2, d2, A3, d3, rfl, hd2, hd3, fun W' hk' => hC2 W' (KQ.trans (KB.kq (bs := [w.heap.size + 1]) (w := w3) (by repeat (first | (with_reducible exact KB.refl _ _) | (with_reducible refine KB.alloc ?_ _) | (with_reducible refine KB.drew ?_) | (with_reducible refine KB.drewN ?_ _) | (with_reducible refine KB.set ?_ (by first | (left; simp; done) | (right; first | exact Nat.le_refl _ | (dsimp only; omega))) _))) (fun b hb => by have e := List.mem_singleton.1 hb; subst e; exact ⟨_, _, q, by decide⟩)) hk')⟩, (by repeat (first | (with_reducible exact hB3) | (with_reducible refine vbelow_alloc ?_ _) | (with_reducible refine vbelow_drew ?_) | (with_reducible refine vbelow_drewN ?_ _) | (with_reducible refine vbelow_set ?_ (by first | exact Nat.le_refl _ | (dsimp only; omega) | omega))))⟩
end Go.Proofs.Ytcifbemppbegbaa.Q
