/- Layer 10: Take. -/
import Derived.Test.YtcifbemppbegbaaA23
namespace Go.Proofs.Ytcifbemppbegbaa.Q
open Go.RowKit Go.Proofs.YtcifbemppbegbaaW.PrintWords Go.Proofs.YtcifbemppbegbaaW.PrintMore Go.Proofs.YtcifbemppbegbaaW.PrintLast
set_option linter.unusedVariables false
set_option linter.unusedSimpArgs false
/-- What holds lanes and numbers stands. -/
def KL (W W' : World) : Prop := ∀ (k : Nat) (cells : Array Value) (t : TypeId), t = 61 ∨ t = 3 → W.heap[k]? = some (.cells cells t (0, 0)) → W'.heap[k]? = W.heap[k]?
theorem KL.trans {W W1 W2 : World} (h : KL W W1) (h' : KL W1 W2) : KL W W2 := fun k cells t ht hk => (h' k cells t ht ((h k cells t ht hk).trans hk)).trans (h k cells t ht hk)
theorem KQ.kl {W W' : World} (h : KQ W W') : KL W W' := fun k cells t ht hk => h k cells t (ht.elim (fun e => .inl e) (fun e => .inr (.inl e))) hk
theorem Rd.KL {W W' : World} {gl : Nat} {xs : List S61} (h : Rd W gl xs) (hk : KL W W') : Rd W' gl xs := by
  obtain ⟨cur, h1, _⟩ := id h
  exact h.move (hk gl cur 61 (.inl rfl) h1) (fun k cells hc => hk k cells 3 (.inr rfl) hc)
theorem KB.kl {bs : List Nat} {w W : World} (h : KB bs w W) (hbs : ∀ b ∈ bs, ∃ cells t, w.heap[b]? = some (.cells cells t (0, 0)) ∧ t ≠ 61 ∧ t ≠ 3) : KL w W := fun k cells t ht hk => h.keep k (Array.getElem?_eq_some_iff.1 hk).1 (fun hm => by
  obtain ⟨c2, t2, h1, h2, h3⟩ := hbs k hm
  rw [hk] at h1
  injection h1 with h1
  injection h1 with _ h1
  subst h1
  rcases ht with ht | ht
  · exact h2 ht
  · exact h3 ht)
theorem R40_KB {bs : List Nat} {w W : World} {B : Nat} {v : Value} {l : List S40} (hR : k40.R 40 w B (fun _ => True) v l) (h : KB bs w W) (hbs : ∀ b ∈ bs, b < B ∨ ∃ cells t, w.heap[b]? = some (.cells cells t (0, 0)) ∧ t ≠ 40) : k40.R 40 W B (fun _ => True) v l := Kd.R_mono (Kd.R_move (Kd.R_bound hR) (fun k hk' => by
    obtain ⟨_, hle, hlt, q, hq, cells, hc⟩ := hk'
    refine h.keep k hlt (fun hm => ?_)
    rcases hbs k hm with hb | ⟨c2, t2, h1, h2⟩
    · omega
    · rw [hc] at h1
      injection h1 with h1
      injection h1 with _ h1
      subst h1
      exact h2 ((by decide : ∀ q, q ∈ (40 : Nat) :: k40.E → q = 40) q hq))) (fun _ hk => hk.1)
theorem take_fin {w5 Wf : World} {bs : List Nat} {B cv gm : Nat} {A A' : Option Addr} {l0 : List S61} {l1 f' : List S40} (hQ : ∀ W', KL w5 W' → Kd.C k61 W' A l0.length l0) (hM : k40.R 40 w5 B (fun _ => True) (.slice (some ⟨gm, 0, none⟩) l1.length l1.length) l1) (hKB : KB bs w5 Wf) (hbs : ∀ b ∈ bs, ∃ cells t, w5.heap[b]? = some (.cells cells t (0, 0)) ∧ t ≠ 61 ∧ t ≠ 3 ∧ (b < B ∨ t ≠ 40)) (hcv : l0.length ≤ cv) (hl : 1 ≤ l1.length) (hA' : A' = (if l1.length = 1 then (some ⟨gm, 0, none⟩) else (some (⟨gm, 0, none⟩ : Addr)).map (·.add (1 * 4)))) (hf' : l1.drop 1 = f') : QO Wf (.agg #[.slice A l0.length cv, .slice A' f'.length f'.length]) l0 (l1.drop 1) := by
  subst hf'
  refine ⟨A, cv, A', _, rfl, hcv, Nat.le_refl _, fun W' hk => ⟨hQ W' ((hKB.kl (fun b hb => ?_)).trans hk.kl), ?_⟩⟩
  · obtain ⟨c, t, h1, h2, h3, _⟩ := hbs b hb
    exact ⟨c, t, h1, h2, h3⟩
  · rw [hA']
    refine Kd.C_drop (Kd.R_reads' (R40_KQ (R40_KB hM hKB (fun b hb => ?_)) hk)).2.2 hl (Nat.le_refl _)
    obtain ⟨c, t, h1, h2, h3, h4⟩ := hbs b hb
    rcases h4 with h4 | h4
    · exact .inl h4
    · exact .inr ⟨c, t, h1, h4⟩
theorem own_any (A0 A1 : Option Addr) (c0 c1 : Nat) (l0 : List S61) (l1 : List S40) (w : World) (hC0 : Kd.C k61 w A0 l0.length l0) (hc0 : l0.length ≤ c0) (hC1 : Kd.C k40 w A1 l1.length l1) (hc1 : l1.length ≤ c1) (hn0 : l0.length ≤ 10000) (hn1 : l1.length ≤ 1000) (hf : ∀ x ∈ l0, x.f3.length ≤ 1000000) :
    Calls Try.prog 37 #[.agg #[.slice A0 l0.length c0, .slice A1 l1.length c1]] w fun e w' => ∃ A cv gm, e = .returned (.agg #[.slice A l0.length cv, .slice (some ⟨gm, 0, none⟩) l1.length l1.length]) ∧ l0.length ≤ cv ∧ (∀ W', KL w' W' → Kd.C k61 W' A l0.length l0) ∧ Kd.R k40 40 w' w.heap.size (fun _ => True) (.slice (some ⟨gm, 0, none⟩) l1.length l1.length) l1 ∧ Below w.heap.size w w' := by
  cases l0 with
  | nil =>
    refine (own_nil A0 A1 c0 c1 l1 w hC1 hc1 hn1).mono ?_
    rintro e w' ⟨A, cv, gm, rfl, hM, hb⟩
    exact ⟨A, cv, gm, rfl, Nat.zero_le _, fun W' _ => ⟨rfl, by simp, fun h => absurd h (Nat.lt_irrefl 0)⟩, hM, hb⟩
  | cons x xs =>
    refine (own_half A0 A1 c0 c1 (x :: xs) l1 w hC0 hc0 hC1 hc1 (by simp) hn0 hn1 hf).mono ?_
    rintro e w' ⟨gl, cv, gm, rfl, hH, hM, hb⟩
    have hcap : (x :: xs).length ≤ cv := by
      obtain ⟨cs, vs, hrow, _⟩ := id hH
      rcases hrow.2 with ⟨h2, _⟩ | ⟨g', cap', cur, hv, h1_, hh, hle, _⟩
      · cases h2
      · injection hv with e1 e2 e3
        subst e3
        exact hle
    exact ⟨_, cv, gm, rfl, hcap, fun W' hk => (hH.rd.KL hk).C (by omega), hM, hb⟩
theorem blk4 {W : World} {b t : Nat} {u0 u1 u2 u3 : Value} (h : W.heap[b]? = some (.cells #[u0, u1, u2, u3] t (0, 0))) : W.cell? ⟨b, 0, none⟩ = some u0 ∧ W.cell? ⟨b, 1, none⟩ = some u1 ∧ W.cell? ⟨b, 2, none⟩ = some u2 ∧ W.cell? ⟨b, 3, none⟩ = some u3 ∧ ∀ o, W.frozen? ⟨b, o, none⟩ = false := ⟨(cell_in h).trans rfl, (cell_in h).trans rfl, (cell_in h).trans rfl, (cell_in h).trans rfl, fun o => frozen_in h⟩
theorem put4 {W : World} {g t : Nat} {u0 u1 u2 u3 : Value} (h : W.heap[g]? = some (.cells #[u0, u1, u2, u3] t (0, 0))) (v0 v1 v2 v3 : Value) : ((((W.setCell ⟨g, 0, none⟩ v0).setCell ⟨g, 1, none⟩ v1).setCell ⟨g, 2, none⟩ v2).setCell ⟨g, 3, none⟩ v3).heap[g]? = some (.cells #[v0, v1, v2, v3] t (0, 0)) :=
  heap_put' (u := v3) (j := 3) (heap_put' (u := v2) (j := 2) (heap_put' (u := v1) (j := 1) (heap_put' (u := v0) (j := 0) h)))
theorem res4_a {W : World} {b g t1 t2 : Nat} {u0 u1 y0 y1 y2 y3 v0 v1 x0 x1 x2 x3 : Value} (q2 : W.heap[b]? = some (.cells #[u0, u1] t1 (0, 0))) (q3 : W.heap[g]? = some (.cells #[y0, y1, y2, y3] t2 (0, 0))) (hne : b ≠ g) : ((((((W.setCell ⟨b, 0, none⟩ v0).setCell ⟨b, 1, none⟩ v1).setCell ⟨g, 0, none⟩ x0).setCell ⟨g, 1, none⟩ x1).setCell ⟨g, 2, none⟩ x2).setCell ⟨g, 3, none⟩ x3).heap[b]? = some (.cells #[v0, v1] t1 (0, 0)) := blk_far (p := ⟨g, 3, none⟩) (blk_far (p := ⟨g, 2, none⟩) (blk_far (p := ⟨g, 1, none⟩) (blk_far (p := ⟨g, 0, none⟩) (put2 q2 v0 v1) hne x0) hne x1) hne x2) hne x3
theorem res4_b {W : World} {b g t1 t2 : Nat} {u0 u1 y0 y1 y2 y3 v0 v1 x0 x1 x2 x3 : Value} (q2 : W.heap[b]? = some (.cells #[u0, u1] t1 (0, 0))) (q3 : W.heap[g]? = some (.cells #[y0, y1, y2, y3] t2 (0, 0))) (hne : b ≠ g) : ((((((W.setCell ⟨b, 0, none⟩ v0).setCell ⟨b, 1, none⟩ v1).setCell ⟨g, 0, none⟩ x0).setCell ⟨g, 1, none⟩ x1).setCell ⟨g, 2, none⟩ x2).setCell ⟨g, 3, none⟩ x3).heap[g]? = some (.cells #[x0, x1, x2, x3] t2 (0, 0)) := put4 (blk_far (p := ⟨b, 1, none⟩) (blk_far (p := ⟨b, 0, none⟩) q3 hne.symm v0) hne.symm v1) x0 x1 x2 x3
set_option maxRecDepth 100000 in
set_option maxHeartbeats 4000000 in
theorem Take_ok (k : Nat) {v : Value} {l0 : List S61} {l1 : List S40} {w : World} (h : QV w v l0 l1) (hk : queue_Check.f k l0 l1 = some 0) {m : S40} (hm : l1[0]? = some m) (hn0 : l0.length ≤ 10000) (hn1 : l1.length ≤ 1000) (hf : ∀ x ∈ l0, x.f3.length ≤ 1000000) : Calls Try.prog 17 #[v] w fun e w' => ∃ v', e = .returned (.tuple #[v', .agg #[.int .i64 m.f0, .int .i64 m.f1, .int .i64 m.f2, .int .u64 m.f3], .int .i64 0]) ∧ QO w' v' l0 (l1.drop 1) ∧ Below w.heap.size w w' := by
  have hl : 0 < l1.length := (List.getElem?_eq_some_iff.1 hm).1
  have t2 : ((l1.length : Int) == 0) = false := beq_eq_false_iff_ne.2 (by omega)
  have hl1 : (0 : Int) < (l1.length : Int) := by omega
  obtain ⟨A0, c0, A1, c1, rfl, h0, h1, hC0, hC1⟩ := h
  go_enter Try.func17, Try.ntmps17
  go_wp2_with fail
  obtain ⟨q1, q2, q3, qz, hBB⟩ := three_blocks w (.cells #[.slice A0 l0.length c0, .slice A1 l1.length c1] 25) (.cells #[.slice none 0 0, .slice none 0 0] 25) (.cells #[.int .i64 0, .int .i64 0, .int .i64 0, .int .u64 0] 40)
  have hC0' := Kd.C_below hC0 hBB
  have hC1' := Kd.C_below hC1 hBB
  clear hC0 hC1
  generalize ((w.alloc (.cells #[.slice A0 l0.length c0, .slice A1 l1.length c1] 25)).alloc (.cells #[.slice none 0 0, .slice none 0 0] 25)).alloc (.cells #[.int .i64 0, .int .i64 0, .int .i64 0, .int .u64 0] 40) = w2 at q1 q2 q3 qz hBB hC0' hC1' ⊢
  refine (queue_Check.calls k A0 c0 l0 A1 c1 l1 0 w2 hC0' h0 hC1' h1 hk).mono ?_
  rintro e w3 ⟨rfl, hb3⟩
  have q1 := heap_on q1 hb3
  have q2 := heap_on q2 hb3
  have q3 := heap_on q3 hb3
  have hB3 := vbelow_step hBB hb3
  have hz3 := hb3.size
  have hC0 := Kd.C_below hC0' hb3
  have hC1 := Kd.C_below hC1' hb3
  obtain ⟨a0, a1, _⟩ := blk2 q1
  obtain ⟨b0, b1, bF⟩ := blk2 q2
  have bF0 := bF 0
  have bF1 := bF 1
  obtain ⟨g0, g1, g2, g3, gF⟩ := blk4 q3
  have gF0 := gF 0
  have gF1 := gF 1
  have gF2 := gF 2
  have gF3 := gF 3
  have k1 : w.heap.size < w3.heap.size := by omega
  have k2 : w.heap.size + 1 < w3.heap.size := by omega
  have k3 : w.heap.size + 1 + 1 < w3.heap.size := by omega
  clear bF gF hBB hb3 hC0' hC1'
  go_wp2_with fail
  refine (own_any A0 A1 c0 c1 l0 l1 _ hC0 h0 hC1 h1 hn0 hn1 hf).mono ?_
  rintro e w4 ⟨A, cv, gm, rfl, hcv, hQ, hM, hb4⟩
  have q2 := heap_on q2 hb4
  have q3 := heap_on q3 hb4
  have hB4 := vbelow_step hB3 hb4
  have hz4 := hb4.size
  have k5 : w.heap.size + 1 < w4.heap.size := by omega
  have k6 : w.heap.size + 1 + 1 < w4.heap.size := by omega
  clear a0 a1 b0 b1 bF0 bF1 g0 g1 g2 g3 gF0 gF1 gF2 gF3 q1 hb4 hC0 hC1 hB3
  have hCM := (Kd.R_reads' hM).2.2
  obtain ⟨ad, e2, m0, m1, m2, m3⟩ := at_T40 hCM 0 (Int.le_refl _) hl1
  have hmr : rd_T40 l1 0 = m := by
    unfold rd_T40
    rw [List.getD_eq_getElem?_getD, Int.toNat_zero, hm]
    rfl
  rw [hmr] at m0 m1 m2 m3
  injection e2 with e2
  subst e2
  replace m0 : w4.cell? ⟨gm, 0, none⟩ = some (.int .i64 m.f0) := m0
  replace m1 : w4.cell? ⟨gm, 1, none⟩ = some (.int .i64 m.f1) := m1
  replace m2 : w4.cell? ⟨gm, 2, none⟩ = some (.int .i64 m.f2) := m2
  replace m3 : w4.cell? ⟨gm, 3, none⟩ = some (.int .u64 m.f3) := m3
  have n0 := vcell_alloc m0 (.cells #[.slice A l0.length cv, .slice (some ⟨gm, 0, none⟩) l1.length l1.length] 25)
  have n1 := vcell_alloc m1 (.cells #[.slice A l0.length cv, .slice (some ⟨gm, 0, none⟩) l1.length l1.length] 25)
  have n2 := vcell_alloc m2 (.cells #[.slice A l0.length cv, .slice (some ⟨gm, 0, none⟩) l1.length l1.length] 25)
  have n3 := vcell_alloc m3 (.cells #[.slice A l0.length cv, .slice (some ⟨gm, 0, none⟩) l1.length l1.length] 25)
  have hlh := Lib.hid hl
  clear hmr hm hl
  go_upto_region 7 with fail
  obtain ⟨u1, u2, uz, hB5⟩ := two_blocks w4 (.cells #[.slice A l0.length cv, .slice (some ⟨gm, 0, none⟩) l1.length l1.length] 25) (.cells #[.int .i64 m.f0, .int .i64 m.f1, .int .i64 m.f2, .int .u64 m.f3] 40)
  have q2 := heap_on q2 hB5
  have q3 := heap_on q3 hB5
  have hK5 := KQ.on hB5
  have hB6 := vbelow_step hB4 hB5
  have k7 : w.heap.size + 1 ≠ w4.heap.size := by omega
  have k8 : w.heap.size + 1 + 1 ≠ w4.heap.size := by omega
  have k9 : w.heap.size + 1 ≠ w4.heap.size + 1 := by omega
  have k10 : w.heap.size + 1 + 1 ≠ w4.heap.size + 1 := by omega
  have k11 : w.heap.size ≤ w4.heap.size := by omega
  clear n0 n1 n2 n3 m0 m1 m2 m3 hB5 hB4 uz
  generalize (w4.alloc (.cells #[.slice A l0.length cv, .slice (some ⟨gm, 0, none⟩) l1.length l1.length] 25)).alloc (.cells #[.int .i64 m.f0, .int .i64 m.f1, .int .i64 m.f2, .int .u64 m.f3] 40) = w5 at u1 u2 q2 q3 hB6 hK5 ⊢
  obtain ⟨b0, b1, bF⟩ := blk2 q2
  have bF0 := bF 0
  have bF1 := bF 1
  obtain ⟨g0, g1, g2, g3, gF⟩ := blk4 q3
  have gF0 := gF 0
  have gF1 := gF 1
  have gF2 := gF 2
  have gF3 := gF 3
  obtain ⟨x0, x1, xF⟩ := blk2 u1
  have xF1 := xF 1
  obtain ⟨y0, y1, y2, y3, _⟩ := blk4 u2
  clear bF gF xF
  obtain ⟨i0, hi0_, hz0, hz1, hz2⟩ := info_parts info40
  have hcu := cut_mid3 (P := Try.prog) 23 40 .i64 .i64 .i64 Try.underlying23 hi0_ 4 hz1 (some ⟨gm, 0, none⟩) l1.length l1.length 1 (l1.length : Int) (by omega) (by omega) (Int.le_refl _) (Nat.le_refl _)
  have hdl : (l1.length : Int).toNat - (1 : Int).toNat = (l1.drop 1).length := by rw [List.length_drop, Int.toNat_natCast]; rfl
  rw [hdl] at hcu
  obtain ⟨A', hA'⟩ : ∃ A', A' = (if l1.length = 1 then (some ⟨gm, 0, none⟩) else (some (⟨gm, 0, none⟩ : Addr)).map (·.add (1 * 4))) := ⟨_, rfl⟩
  replace hcu : ∀ W : World, (Instr.slice 23 (.slice (some ⟨gm, 0, none⟩) l1.length l1.length) (some (.int .i64 1)) (some (.int .i64 (l1.length : Int))) (some (.int .i64 (l1.length : Int)))).run Try.prog W = .ok (.slice A' (l1.drop 1).length (l1.drop 1).length) W := by
    rw [hA']
    exact hcu
  generalize hf' : l1.drop 1 = f' at hcu
  have hM5 : k40.R 40 w5 w3.heap.size (fun _ => True) (.slice (some ⟨gm, 0, none⟩) l1.length l1.length) l1 := R40_KQ hM hK5
  have hQ5 : ∀ W', KL w5 W' → Kd.C k61 W' A l0.length l0 := fun W' hk => hQ W' (hK5.kl.trans hk)
  have hAh := Lib.hid hA'
  have hfh := Lib.hid hf'
  clear hA' hf' hdl hz0 hz1 hz2 hi0_ hM hQ hCM hK5
  have hmx : Try.prog.follows .mixedOrders = true := by kernel_rfl
  go_upto_region 8 with fail
  go_region
  all_goals go_wp2_with fail
  all_goals have q2' := blk_far q2 (p := ⟨w4.heap.size, 1, none⟩) k7 (.slice A' f'.length f'.length)
  all_goals have q3' := blk_far q3 (p := ⟨w4.heap.size, 1, none⟩) k8 (.slice A' f'.length f'.length)
  all_goals refine bodyPost_ret (results_list (rs := [.cell 2 25, .cell 3 40, .tmp 4]) rfl (by simp) (.cell (w.heap.size + 1) 25 #[.slice A l0.length cv, .slice A' f'.length f'.length] (0, 0) _ rfl (blk_drew (res4_a q2' q3' (by omega))) Try.underlying25 rfl (by kernel_rfl) (.cell (w.heap.size + 1 + 1) 40 #[.int .i64 m.f0, .int .i64 m.f1, .int .i64 m.f2, .int .u64 m.f3] (0, 0) _ rfl (blk_drew (res4_b q2' q3' (by omega))) Try.underlying40 rfl (by kernel_rfl) (.tmp .nil)))) rfl ?_
  all_goals refine ⟨_, rfl, take_fin (bs := [w4.heap.size, w.heap.size + 1, w.heap.size + 1 + 1]) hQ5 hM5 ?_ (fun b hb => ?_) hcv hlh.out hAh.out hfh.out, ?_⟩
  · exact (by repeat (first | (with_reducible exact KB.refl _ _) | (with_reducible refine KB.alloc ?_ _) | (with_reducible refine KB.drew ?_) | (with_reducible refine KB.drewN ?_ _) | (with_reducible refine KB.set ?_ (by first | (left; simp; done) | (right; first | exact Nat.le_refl _ | (dsimp only; omega))) _)))
  · rcases List.mem_cons.1 hb with e | hb
    · subst e
      exact ⟨_, _, u1, by decide, by decide, .inr (by decide)⟩
    · rcases List.mem_cons.1 hb with e | hb
      · subst e
        exact ⟨_, _, q2, by decide, by decide, .inr (by decide)⟩
      · have e := List.mem_singleton.1 hb
        subst e
        exact ⟨_, _, q3, by decide, by decide, .inl k3⟩
  · exact (by repeat (first | (with_reducible exact hB6) | (with_reducible refine vbelow_alloc ?_ _) | (with_reducible refine vbelow_drew ?_) | (with_reducible refine vbelow_drewN ?_ _) | (with_reducible refine vbelow_set ?_ (by first | exact Nat.le_refl _ | (dsimp only; omega) | omega))))
end Go.Proofs.Ytcifbemppbegbaa.Q

/- Layer 10: what Reset calls on a queue of its own, where it may not. -/
namespace Go.Proofs.Ytcifbemppbegbaa.Q
open Go.RowKit Go.Proofs.YtcifbemppbegbaaW.PrintWords Go.Proofs.YtcifbemppbegbaaW.PrintMore Go.Proofs.YtcifbemppbegbaaW.PrintLast
set_option linter.unusedVariables false
set_option linter.unusedSimpArgs false
set_option maxRecDepth 100000 in
set_option maxHeartbeats 4000000 in
theorem reset_open {B p gl cv gm i : Nat} {w : World} {l0 : List S61} {l1 : List S40} {y : S61} (h : Mine B w p gl cv gm l0 l1) (hBw : B ≤ w.heap.size) (hx : l0[i]? = some y) (hl : 0 < y.f3.length) : Calls Try.prog 41 #[.pointer (some ⟨p, 0, none⟩), .int .i64 (i : Int)] w fun e w' => e = .returned (.int .i64 104) ∧ Below B w w' := by
  have hi : i < l0.length := (List.getElem?_eq_some_iff.1 hx).1
  have hi0 : (0 : Int) ≤ (i : Int) := by omega
  have hi1 : (i : Int) < (l0.length : Int) := by omega
  have t1 : decide (0 < (y.f3.length : Int)) = true := decide_eq_true (by omega)
  have t2 : decide (0 < y.f3.length) = true := decide_eq_true hl
  have hS : Below w.heap.size w ((w.alloc (.cells #[.int .i64 (i : Int)] 3)).drew) := vbelow_drew (vbelow_alloc (Below.refl _ _) _)
  have hmx : Try.prog.follows .mixedOrders = true := by kernel_rfl
  have hb0 := vbelow_alloc (Below.refl w.heap.size w) (.cells #[.int .i64 (i : Int)] 3)
  have h2 := h.on hb0
  have hp0 := h2.p0
  obtain ⟨A, c, c0, c1, c2, c3, c4, c5, hF, hc, hC⟩ := h2.lanes.rd.cells hx
  have hbx : (w.alloc (.cells #[.int .i64 (i : Int)] 3)).cell? ⟨w.heap.size, 0, none⟩ = some (.int .i64 (i : Int)) := (cell_in (heap_alloc_new w _)).trans rfl
  clear h hC hc hl h2
  go_enter Try.func41, Try.ntmps41
  go_wp2_with fail
  go_region
  all_goals go_wp2_with fail
  all_goals go_ret
  all_goals exact ⟨rfl, hS.mono hBw⟩
end Go.Proofs.Ytcifbemppbegbaa.Q

/- Layer 10: Claim, Publish, Retire, Reset: what they tell. -/
namespace Go.Proofs.Ytcifbemppbegbaa.Q
open Go.RowKit Go.Proofs.YtcifbemppbegbaaW.PrintWords Go.Proofs.YtcifbemppbegbaaW.PrintMore Go.Proofs.YtcifbemppbegbaaW.PrintLast
set_option linter.unusedVariables false
set_option linter.unusedSimpArgs false
theorem hcf30 (i : Int) (p : Nat) (W : World) : (callFunc 30 (#[.pointer (some ⟨p, 0, none⟩), .int .i64 i] ++ #[])).run Try.prog W = .ok (.enter 30 (#[.pointer (some ⟨p, 0, none⟩), .int .i64 i] ++ #[])) W := by rfl
theorem hcf33 (i : Int) (a b p : Nat) (W : World) : (callFunc 33 (#[.pointer (some ⟨p, 0, none⟩), .int .i64 i] ++ #[.pointer (some ⟨a, 0, none⟩), .pointer (some ⟨b, 0, none⟩)])).run Try.prog W = .ok (.enter 33 (#[.pointer (some ⟨p, 0, none⟩), .int .i64 i] ++ #[.pointer (some ⟨a, 0, none⟩), .pointer (some ⟨b, 0, none⟩)])) W := by rfl
theorem hcf38 (i : Int) (a p : Nat) (W : World) : (callFunc 38 (#[.pointer (some ⟨p, 0, none⟩), .int .i64 i] ++ #[.pointer (some ⟨a, 0, none⟩)])).run Try.prog W = .ok (.enter 38 (#[.pointer (some ⟨p, 0, none⟩), .int .i64 i] ++ #[.pointer (some ⟨a, 0, none⟩)])) W := by rfl
theorem hcf41 (i : Int) (p : Nat) (W : World) : (callFunc 41 (#[.pointer (some ⟨p, 0, none⟩), .int .i64 i] ++ #[])).run Try.prog W = .ok (.enter 41 (#[.pointer (some ⟨p, 0, none⟩), .int .i64 i] ++ #[])) W := by rfl
/-- Sizes that the calls want. -/
structure Small (l0 : List S61) (l1 : List S40) : Prop where
  n0 : l0.length ≤ 10000
  n1 : l1.length ≤ 1000
  f3 : ∀ x ∈ l0, x.f3.length ≤ 1000000
theorem do_bad' (fv : Value) (lane : Int) (k : Nat) (t : Int) {v : Value} {l0 : List S61} {l1 : List S40} {w : World} (h : QV w v l0 l1) (hk : queue_Check.f k l0 l1 = some t) (ht : t ≠ 0) (W : World) (hb : Below w.heap.size w W) : Calls Try.prog 29 #[v, .int .i64 lane, fv] W fun e w' => ∃ v', e = .returned (.tuple #[v', .int .i64 100]) ∧ QO w' v' [] [] ∧ Below W.heap.size W w' := (do_bad fv lane k t (h.on hb) hk ht).mono fun _ _ ⟨h1, h2⟩ => ⟨_, h1, QO.nil _, h2⟩
theorem do_range' (fv : Value) (lane : Int) (k : Nat) {v : Value} {l0 : List S61} {l1 : List S40} {w : World} (h : QV w v l0 l1) (hk : queue_Check.f k l0 l1 = some 0) (hl : lane < 0 ∨ (l0.length : Int) ≤ lane) (W : World) (hb : Below w.heap.size w W) : Calls Try.prog 29 #[v, .int .i64 lane, fv] W fun e w' => ∃ v', e = .returned (.tuple #[v', .int .i64 5]) ∧ QO w' v' [] [] ∧ Below W.heap.size W w' := (do_range fv lane k (h.on hb) hk hl).mono fun _ _ ⟨h1, h2⟩ => ⟨_, h1, QO.nil _, h2⟩
theorem Claim_bad (lane : Int) (k : Nat) {v : Value} {l0 : List S61} {l1 : List S40} {w : World} (h : QV w v l0 l1) {t : Int} (hk : queue_Check.f k l0 l1 = some t) (ht : t ≠ 0) : Calls Try.prog 9 #[v, .int .i64 lane] w fun e w' => ∃ v', e = .returned (.tuple #[v', .agg #[.int .i64 0, .int .i64 0, .int .i64 0], .int .i64 100]) ∧ QO w' v' [] [] ∧ Below w.heap.size w w' := Claim_err lane h 100 (by decide) (fun W hb => do_bad' _ lane k t h hk ht W hb)
theorem Claim_range (lane : Int) (k : Nat) {v : Value} {l0 : List S61} {l1 : List S40} {w : World} (h : QV w v l0 l1) (hk : queue_Check.f k l0 l1 = some 0) (hl : lane < 0 ∨ (l0.length : Int) ≤ lane) : Calls Try.prog 9 #[v, .int .i64 lane] w fun e w' => ∃ v', e = .returned (.tuple #[v', .agg #[.int .i64 0, .int .i64 0, .int .i64 0], .int .i64 5]) ∧ QO w' v' [] [] ∧ Below w.heap.size w w' := Claim_err lane h 5 (by decide) (fun W hb => do_range' _ lane k h hk hl W hb)
theorem Claim_full (i k : Nat) {v : Value} {l0 : List S61} {l1 : List S40} {w : World} (h : QV w v l0 l1) (hk : queue_Check.f k l0 l1 = some 0) (hs : Small l0 l1) {y : S61} (hx : l0[i]? = some y) (h0 : y.f2 = 0) : Calls Try.prog 9 #[v, .int .i64 (i : Int)] w fun e w' => ∃ v', e = .returned (.tuple #[v', .agg #[.int .i64 0, .int .i64 0, .int .i64 0], .int .i64 101]) ∧ QO w' v' [] [] ∧ Below w.heap.size w w' := by
  have hi : i < l0.length := (List.getElem?_eq_some_iff.1 hx).1
  exact Claim_err (i : Int) h 101 (by decide) (fun W hb => do_run 30 #[] i k 101 [] [] (h.on hb) hk hi hs.n0 hs.n1 hs.f3 (fun p W => hcf30 _ p W) (fun _ => ⟨rfl, rfl⟩) (fun B W' p gl cv gm h1 h2 h3 hM => (claim_full hM hx h0).mono (fun _ _ ⟨e1, e2⟩ => ⟨e1, e2 ▸ Below.refl _ _, fun e => absurd e (by decide)⟩)))
theorem Claim_many (i k : Nat) {v : Value} {l0 : List S61} {l1 : List S40} {w : World} (h : QV w v l0 l1) (hk : queue_Check.f k l0 l1 = some 0) (hs : Small l0 l1) {y : S61} (hx : l0[i]? = some y) (h0 : y.f2 ≠ 0) (h4 : y.f4 = 1099511627776) : Calls Try.prog 9 #[v, .int .i64 (i : Int)] w fun e w' => ∃ v', e = .returned (.tuple #[v', .agg #[.int .i64 0, .int .i64 0, .int .i64 0], .int .i64 3]) ∧ QO w' v' [] [] ∧ Below w.heap.size w w' := by
  have hi : i < l0.length := (List.getElem?_eq_some_iff.1 hx).1
  exact Claim_err (i : Int) h 3 (by decide) (fun W hb => do_run 30 #[] i k 3 [] [] (h.on hb) hk hi hs.n0 hs.n1 hs.f3 (fun p W => hcf30 _ p W) (fun _ => ⟨rfl, rfl⟩) (fun B W' p gl cv gm h1 h2 h3 hM => (claim_many hM hx h0 h4).mono (fun _ _ ⟨e1, e2⟩ => ⟨e1, e2 ▸ Below.refl _ _, fun e => absurd e (by decide)⟩)))
theorem claim_box {B p gl cv gm i : Nat} {w w' : World} {l0 : List S61} {l1 : List S40} {z : S61} (h : Mine B w p gl cv gm l0 l1) (hn : l0.length ≤ 10000) (hr : Rd w' gl (l0.set i z)) (hp : w'.heap[p]? = w.heap[p]?) (hM : k40.R 40 w' B (fun _ => True) (.slice (some ⟨gm, 0, none⟩) l1.length l1.length) l1) : BoxOut w' p (l0.set i z) l1 := ⟨some ⟨gl, 0, none⟩, cv, _, _, by rw [hp, h.box, List.length_set], by rw [List.length_set]; exact h.cap, Nat.le_refl _, fun W' hk => ⟨(hr.KQ hk).C (by rw [List.length_set]; omega), (Kd.R_reads' (R40_KQ hM hk)).2.2⟩⟩
theorem Claim_done (i k : Nat) {v : Value} {l0 : List S61} {l1 : List S40} {w : World} (h : QV w v l0 l1) (hk : queue_Check.f k l0 l1 = some 0) (hs : Small l0 l1) {y : S61} (hx : l0[i]? = some y) (h0 : y.f2 ≠ 0) (h4 : y.f4 ≠ 1099511627776) (hr2 : 0 ≤ y.f2 ∧ y.f2 ≤ 1099511627776) (hr4 : 0 ≤ y.f4 ∧ y.f4 ≤ 1099511627776) : Calls Try.prog 9 #[v, .int .i64 (i : Int)] w fun e w' => ∃ v', e = .returned (.tuple #[v', .agg #[.int .i64 (i : Int), .int .i64 y.f4, .int .i64 y.f5], .int .i64 0]) ∧ QO w' v' (l0.set i { y with f2 := y.f2 - 1, f3 := y.f3 ++ [y.f4], f4 := y.f4 + 1 }) l1 ∧ Below w.heap.size w w' := by
  have hi : i < l0.length := (List.getElem?_eq_some_iff.1 hx).1
  have hy : (l0.set i { y with f2 := y.f2 - 1, f3 := y.f3 ++ [y.f4], f4 := y.f4 + 1 })[i]? = some { y with f2 := y.f2 - 1, f3 := y.f3 ++ [y.f4], f4 := y.f4 + 1 } := by rw [List.getElem?_set, if_pos rfl, if_pos hi]
  have h9 := Claim_ok i h hy (by show 0 < y.f4 + 1 ∧ y.f4 + 1 ≤ _; omega) (l1 := l1) (r1 := l1) (fun W hb => do_run 30 #[] i k 0 _ _ (h.on hb) hk hi hs.n0 hs.n1 hs.f3 (fun p W => hcf30 _ p W) (fun e => absurd rfl e) (fun B W' p gl cv gm h1 h2 h3 hM => (claim_ok hM h2 hx h0 h4 (hs.f3 y (List.mem_of_getElem? hx)) hr2 hr4).mono (fun _ _ ⟨e1, e2, e3, e4, e5⟩ => ⟨e1, e2, fun _ => claim_box hM hs.n0 e3 e4 e5⟩)))
  have e1 : y.f4 + 1 - 1 = y.f4 := by omega
  dsimp only at h9
  rw [e1] at h9
  exact h9
theorem Publish_bad (lane : Int) (k : Nat) (n ep x : Int) {v : Value} {l0 : List S61} {l1 : List S40} {w : World} (h : QV w v l0 l1) {t : Int} (hk : queue_Check.f k l0 l1 = some t) (ht : t ≠ 0) : Calls Try.prog 11 #[v, .agg #[.int .i64 lane, .int .i64 n, .int .i64 ep], .int .u64 x] w fun e w' => ∃ v', e = .returned (.tuple #[v', .int .i64 100]) ∧ QO w' v' [] [] ∧ Below w.heap.size w w' := Publish_run lane n ep x h 100 (fun W hb _ _ => do_bad' _ lane k t h hk ht W hb)
theorem Publish_range (lane : Int) (k : Nat) (n ep x : Int) {v : Value} {l0 : List S61} {l1 : List S40} {w : World} (h : QV w v l0 l1) (hk : queue_Check.f k l0 l1 = some 0) (hl : lane < 0 ∨ (l0.length : Int) ≤ lane) : Calls Try.prog 11 #[v, .agg #[.int .i64 lane, .int .i64 n, .int .i64 ep], .int .u64 x] w fun e w' => ∃ v', e = .returned (.tuple #[v', .int .i64 5]) ∧ QO w' v' [] [] ∧ Below w.heap.size w w' := Publish_run lane n ep x h 5 (fun W hb _ _ => do_range' _ lane k h hk hl W hb)
theorem Publish_less (i k : Nat) (k2 : Nat) (n ep x pl : Int) {v : Value} {l0 : List S61} {l1 : List S40} {w : World} (h : QV w v l0 l1) (hk : queue_Check.f k l0 l1 = some 0) (hs : Small l0 l1) {y : S61} (hx : l0[i]? = some y) (hpl : queue_plain_place.f k2 l0 l1 (i : Int) n ep = some pl) (hl : pl < 0) : Calls Try.prog 11 #[v, .agg #[.int .i64 (i : Int), .int .i64 n, .int .i64 ep], .int .u64 x] w fun e w' => ∃ v', e = .returned (.tuple #[v', .int .i64 102]) ∧ QO w' v' [] [] ∧ Below w.heap.size w w' := by
  have hi : i < l0.length := (List.getElem?_eq_some_iff.1 hx).1
  exact Publish_run (i : Int) n ep x h 102 (fun W hb hc hd => do_run 33 #[.pointer (some ⟨w.heap.size + 1, 0, none⟩), .pointer (some ⟨w.heap.size + 1 + 1, 0, none⟩)] i k 102 [] [] (h.on hb) hk hi hs.n0 hs.n1 hs.f3 (fun p W => hcf33 _ _ _ p W) (fun _ => ⟨rfl, rfl⟩) (fun B W' p gl cv gm h1 h2 h3 hM => (publish_less (k := k2) hM h2 (heap_on hc h3) (heap_on hd h3) hx hpl hs.n0 hs.n1 hl).mono (fun _ _ ⟨e1, e2⟩ => ⟨e1, e2.mono h2, fun e => absurd e (by decide)⟩)))
theorem Publish_more (i k : Nat) (k2 : Nat) (n ep x pl : Int) {v : Value} {l0 : List S61} {l1 : List S40} {w : World} (h : QV w v l0 l1) (hk : queue_Check.f k l0 l1 = some 0) (hs : Small l0 l1) {y : S61} (hx : l0[i]? = some y) (hpl : queue_plain_place.f k2 l0 l1 (i : Int) n ep = some pl) (hl : 0 < pl) : Calls Try.prog 11 #[v, .agg #[.int .i64 (i : Int), .int .i64 n, .int .i64 ep], .int .u64 x] w fun e w' => ∃ v', e = .returned (.tuple #[v', .int .i64 103]) ∧ QO w' v' [] [] ∧ Below w.heap.size w w' := by
  have hi : i < l0.length := (List.getElem?_eq_some_iff.1 hx).1
  exact Publish_run (i : Int) n ep x h 103 (fun W hb hc hd => do_run 33 #[.pointer (some ⟨w.heap.size + 1, 0, none⟩), .pointer (some ⟨w.heap.size + 1 + 1, 0, none⟩)] i k 103 [] [] (h.on hb) hk hi hs.n0 hs.n1 hs.f3 (fun p W => hcf33 _ _ _ p W) (fun _ => ⟨rfl, rfl⟩) (fun B W' p gl cv gm h1 h2 h3 hM => (publish_more (k := k2) hM h2 (heap_on hc h3) (heap_on hd h3) hx hpl hs.n0 hs.n1 hl).mono (fun _ _ ⟨e1, e2⟩ => ⟨e1, e2.mono h2, fun e => absurd e (by decide)⟩)))
theorem Publish_done (i k : Nat) (k2 : Nat) (n ep x : Int) {v : Value} {l0 : List S61} {l1 : List S40} {w : World} (h : QV w v l0 l1) (hk : queue_Check.f k l0 l1 = some 0) (hs : Small l0 l1) {y : S61} (hx : l0[i]? = some y) (hpl : queue_plain_place.f k2 l0 l1 (i : Int) n ep = some 0) (hne : 1 ≤ y.f3.length) : Calls Try.prog 11 #[v, .agg #[.int .i64 (i : Int), .int .i64 n, .int .i64 ep], .int .u64 x] w fun e w' => ∃ v', e = .returned (.tuple #[v', .int .i64 0]) ∧ QO w' v' (l0.set i { y with f3 := y.f3.drop 1 }) (l1 ++ [⟨(i : Int), ep, n, x⟩]) ∧ Below w.heap.size w w' := by
  have hi : i < l0.length := (List.getElem?_eq_some_iff.1 hx).1
  exact Publish_run (i : Int) n ep x h 0 (fun W hb hc hd => do_run 33 #[.pointer (some ⟨w.heap.size + 1, 0, none⟩), .pointer (some ⟨w.heap.size + 1 + 1, 0, none⟩)] i k 0 _ _ (h.on hb) hk hi hs.n0 hs.n1 hs.f3 (fun p W => hcf33 _ _ _ p W) (fun e => absurd rfl e) (fun B W' p gl cv gm h1 h2 h3 hM => (publish_ok (k := k2) hM h2 (heap_on hc h3) (heap_on hd h3) hx hpl hs.n0 hs.n1 hne).mono (fun _ _ ⟨e1, e2, e3⟩ => ⟨e1, e2, fun _ => e3⟩)))
theorem Retire_one (i k : Nat) (k2 : Nat) (m1 m2 m3 : Int) {v : Value} {l0 : List S61} {l1 : List S40} {w : World} (h : QV w v l0 l1) (hk : queue_Check.f k l0 l1 = some 0) (hs : Small l0 l1) {y : S61} (hx : l0[i]? = some y) {mn : Int} (hpl : queue_plain_messages.f k2 l0 l1 (i : Int) = some mn) (he : m1 = y.f5) (r0 : 0 ≤ y.f0 ∧ y.f0 ≤ 1099511627776) (r2 : 0 ≤ y.f2 ∧ y.f2 ≤ 1099511627776) (rm : 0 ≤ mn ∧ mn ≤ 1000000) (hz : y.f0 - y.f2 - (y.f3.length : Int) - mn ≠ 0) (hf : y.f1 = false) : Calls Try.prog 19 #[v, .agg #[.int .i64 (i : Int), .int .i64 m1, .int .i64 m2, .int .u64 m3]] w fun e w' => ∃ v', e = .returned (.tuple #[v', .int .i64 0]) ∧ QO w' v' l0 l1 ∧ Below w.heap.size w w' := by
  have hi : i < l0.length := (List.getElem?_eq_some_iff.1 hx).1
  exact Retire_run (i : Int) m1 m2 m3 h 0 (fun W hb hc => do_run 38 #[.pointer (some ⟨w.heap.size + 1, 0, none⟩)] i k 0 _ _ (h.on hb) hk hi hs.n0 hs.n1 hs.f3 (fun p W => hcf38 _ _ p W) (fun e => absurd rfl e) (fun B W' p gl cv gm h1 h2 h3 hM => (retire_one (k := k2) hM h2 (heap_on hc h3) hx hs.n0 hs.n1 hpl he r0 r2 (hs.f3 y (List.mem_of_getElem? hx)) rm hz hf).mono (fun _ _ ⟨e1, e2, e3⟩ => ⟨e1, e2, fun _ => e3⟩)))
theorem Reset_open (i k : Nat) {v : Value} {l0 : List S61} {l1 : List S40} {w : World} (h : QV w v l0 l1) (hk : queue_Check.f k l0 l1 = some 0) (hs : Small l0 l1) {y : S61} (hx : l0[i]? = some y) (hl : 0 < y.f3.length) : Calls Try.prog 21 #[v, .int .i64 (i : Int)] w fun e w' => ∃ v', e = .returned (.tuple #[v', .int .i64 104]) ∧ QO w' v' [] [] ∧ Below w.heap.size w w' := by
  have hi : i < l0.length := (List.getElem?_eq_some_iff.1 hx).1
  exact Reset_run (i : Int) h 104 (fun W hb => do_run 41 #[] i k 104 [] [] (h.on hb) hk hi hs.n0 hs.n1 hs.f3 (fun p W => hcf41 _ p W) (fun _ => ⟨rfl, rfl⟩) (fun B W' p gl cv gm h1 h2 h3 hM => (reset_open hM h2 hx hl).mono (fun _ _ ⟨e1, e2⟩ => ⟨e1, e2, fun e => absurd e (by decide)⟩)))
end Go.Proofs.Ytcifbemppbegbaa.Q
