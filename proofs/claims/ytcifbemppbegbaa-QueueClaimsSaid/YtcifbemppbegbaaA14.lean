/- Layer 10: own, whole. -/
import Derived.Test.YtcifbemppbegbaaA12
namespace Go.Proofs.Ytcifbemppbegbaa.Q
open Go.RowKit Go.Proofs.YtcifbemppbegbaaW.PrintWords Go.Proofs.YtcifbemppbegbaaW.PrintMore Go.Proofs.YtcifbemppbegbaaW.PrintLast
set_option linter.unusedVariables false
set_option linter.unusedSimpArgs false
theorem R40_own {W : World} {B n c g : Nat} {l : List S40} (h : k40.R 40 W B (fun _ => True) (.slice (some ⟨g, 0, none⟩) n c) l) : ∃ cs, W.ownsRow B 40 4 (.slice (some ⟨g, 0, none⟩) n c) l.length cs := by
  obtain ⟨_, inner, ho, _⟩ := h
  exact ⟨inner, ho⟩
theorem blk2 {W : World} {b t : Nat} {u0 u1 : Value} (h : W.heap[b]? = some (.cells #[u0, u1] t (0, 0))) : W.cell? ⟨b, 0, none⟩ = some u0 ∧ W.cell? ⟨b, 1, none⟩ = some u1 ∧ ∀ o, W.frozen? ⟨b, o, none⟩ = false := by
  unfold World.cell? World.frozen?
  rw [show W.heap[b]? = _ from h]
  exact ⟨rfl, rfl, fun o => by rw [show W.heap[b]? = _ from h]; simp⟩
theorem put2 {W : World} {g t : Nat} {u0 u1 : Value} (h : W.heap[g]? = some (.cells #[u0, u1] t (0, 0))) (v0 v1 : Value) : ((W.setCell ⟨g, 0, none⟩ v0).setCell ⟨g, 1, none⟩ v1).heap[g]? = some (.cells #[v0, v1] t (0, 0)) :=
  heap_put' (u := v1) (j := 1) (heap_put' (u := v0) (j := 0) h)
set_option maxRecDepth 100000 in
set_option maxHeartbeats 4000000 in
theorem own_half (A0 A1 : Option Addr) (c0 c1 : Nat) (l0 : List S61) (l1 : List S40) (w : World) (hC0 : Kd.C k61 w A0 l0.length l0) (hc0 : l0.length ≤ c0) (hC1 : Kd.C k40 w A1 l1.length l1) (hc1 : l1.length ≤ c1) (hz0 : 0 < l0.length) (hn0 : l0.length ≤ 10000) (hn1 : l1.length ≤ 1000) (hf : ∀ x ∈ l0, x.f3.length ≤ 1000000) :
    Calls Try.prog 37 #[.agg #[.slice A0 l0.length c0, .slice A1 l1.length c1]] w fun e w' => ∃ gl cv gm, e = .returned (.agg #[.slice (some ⟨gl, 0, none⟩) l0.length cv, .slice (some ⟨gm, 0, none⟩) l1.length l1.length]) ∧ Half w' w.heap.size w' gl l0.length cv l0 l0.length ∧ Kd.R k40 40 w' w.heap.size (fun _ => True) (.slice (some ⟨gm, 0, none⟩) l1.length l1.length) l1 ∧ Below w.heap.size w w' := by
  have hfh := Lib.hid hf
  clear hf
  have hb1 := World.alloc_heap_new w (.cells #[.slice A0 l0.length c0, .slice A1 l1.length c1] 25)
  have hb1' := heap_on hb1 (vbelow_alloc (Below.refl _ _) (.cells #[.slice none 0 0, .slice none 0 0] 25))
  have kb2 : ((w.alloc (.cells #[.slice A0 l0.length c0, .slice A1 l1.length c1] 25)).alloc (.cells #[.slice none 0 0, .slice none 0 0] 25)).heap[w.heap.size + 1]? = some (.cells #[.slice none 0 0, .slice none 0 0] 25 (0, 0)) := by
    have := heap_alloc_new (w.alloc (.cells #[.slice A0 l0.length c0, .slice A1 l1.length c1] 25)) (.cells #[.slice none 0 0, .slice none 0 0] 25)
    rwa [World.size_alloc] at this
  have k10 : ((w.alloc (.cells #[.slice A0 l0.length c0, .slice A1 l1.length c1] 25)).alloc (.cells #[.slice none 0 0, .slice none 0 0] 25)).cell? ⟨w.heap.size, 0, none⟩ = some (.slice A0 l0.length c0) := by simp [World.cell?, hb1']
  have k11 : ((w.alloc (.cells #[.slice A0 l0.length c0, .slice A1 l1.length c1] 25)).alloc (.cells #[.slice none 0 0, .slice none 0 0] 25)).cell? ⟨w.heap.size, 1, none⟩ = some (.slice A1 l1.length c1) := by simp [World.cell?, hb1']
  have hBB : Below w.heap.size w ((w.alloc (.cells #[.slice A0 l0.length c0, .slice A1 l1.length c1] 25)).alloc (.cells #[.slice none 0 0, .slice none 0 0] 25)) := vbelow_alloc (vbelow_alloc (Below.refl _ _) _) _
  have hC02 := Kd.C_below hC0 hBB
  have hC12 := Kd.C_below hC1 hBB
  clear hb1 hC0 hC1
  obtain ⟨ad0, rfl, _⟩ := hC02.2.2 hz0
  obtain ⟨cs, hRc, hcell0⟩ := ReadsRow.inner_ hC02
  have hone : ∀ u ∈ cs, u.oneCell' = true := Kd.reps_one hRc (by decide) (fun p c h => k61.K_one h)
  have hcl : cs.length = l0.length * 6 := hRc.1
  have hcs := Lib.hid hRc
  clear hRc
  go_enter Try.func37, Try.ntmps37
  go_wp2
  refine wp_mono (own_r1 (some ad0) A1 c0 c1 l0 l1 w.heap.size (w.heap.size + 1) _ _ (by rfl) k10 k11 cs hcl hone (fun ad' e j u hj => by cases e; exact hcell0 j u hj) (fun e => by cases e) (by omega) hn1) ?_
  generalize (w.alloc (.cells #[.slice (some ad0) l0.length c0, .slice A1 l1.length c1] 25)).alloc (.cells #[.slice none 0 0, .slice none 0 0] 25) = w2 at hb1' kb2 k10 k11 hBB hC02 hC12 hcell0 hcs
  intro e a W h_
  obtain ⟨rfl, Av, cv, gm, gx, rfl, hOc, hMr, hGx, hgx, hBW⟩ := NoPanic.imp _ _ _ h_
  clear h_
  obtain ⟨csm, hom⟩ := R40_own hMr
  rw [List.length_replicate] at hom
  obtain ⟨curm, hgmW⟩ := row_heap hom
  have hmx : gm ≠ gx := fun e => by
    rw [e, hGx] at hgmW
    simp at hgmW
  have k11W := vcell hBW k11
  have kx0 : W.cell? ⟨gx, 0, none⟩ = some (.slice Av l0.length cv) := by simp [World.cell?, hGx]
  have kx1 : W.cell? ⟨gx, 1, none⟩ = some (.slice (some ⟨gm, 0, none⟩) l1.length l1.length) := by simp [World.cell?, hGx]
  have hC1W := Kd.C_below hC12 hBW
  have hzz := hBB.size
  go_wp2_with ((with_reducible refine gate_builtin (b := .copy) (xs := #[.tmp 14, .tmp 16]) rfl ?_); refine wpList_copy40 (w0 := w2) w2.heap.size rfl (.tmp 14) (.tmp 16) rfl (.slice (some ⟨gm, 0, none⟩) l1.length l1.length) (List.replicate l1.length z40) l1 A1 c1 rfl rfl hMr List.length_replicate hC1W hBW ?_; intro W1 hM1 hB1 hg1; have hx1 := (hg1.block gx (Array.getElem?_eq_some_iff.1 hGx).1 (fun e => hmx (Option.some.inj e).symm)).trans hGx; have kz0 : W1.cell? ⟨gx, 0, none⟩ = some (.slice Av l0.length cv) := (by simp [World.cell?, hx1]))
  have hO1 := ownsRow_grown hOc hgmW (by decide) hg1
  obtain ⟨gl, hAv⟩ : ∃ gl, Av = some ⟨gl, 0, none⟩ := by
    rcases hO1.2 with ⟨hv, h0⟩ | ⟨gl, cap, cur, hv, _, _⟩
    · omega
    · injection hv with e1 e2 e3
      exact ⟨gl, e1⟩
  subst hAv
  have hglB : w2.heap.size ≤ gl := by
    rcases hO1.2 with ⟨hv, h0⟩ | ⟨gl', cap, cur, hv, hle, _⟩
    · omega
    · injection hv with e1 e2 e3
      injection e1 with e4
      injection e4 with e5
      omega
  have hH := Half.start hO1 hcs.out rfl
  have hKp : OwnKeep w2 W1 gx gm (.slice (some ⟨gl, 0, none⟩) l0.length cv) l1 := ⟨hx1, hM1, hB1⟩
  clear hcs hcell0 hone hcl hOc hO1 hMr hM1 hGx hx1 kx0 kx1 kz0 k11W hC1W hom hgmW hg1 hB1
  go_loopw [21] (fun v21 wr => ∃ k : Nat, k ≤ l0.length ∧ v21 = .int .i64 (k : Int) ∧ Half w2 w2.heap.size wr gl l0.length cv l0 k ∧ OwnKeep w2 wr gx gm (.slice (some ⟨gl, 0, none⟩) l0.length cv) l1)
    (fun v21 _ => match v21 with | .int _ z => l0.length - z.toNat | _ => 0)
  case atStart => exact ⟨0, Nat.zero_le _, rfl, hH, hKp⟩
  case round =>
    obtain ⟨k, hk, rfl, hHk, hKk⟩ := hrel
    by_cases hkn : k < l0.length
    · have hd1 : decide ((k : Int) < (l0.length : Int)) = true := decide_eq_true (by omega)
      obtain ⟨A3, c3, hcell, hc3, hC3⟩ := hHk.cell hkn (List.getElem?_eq_getElem hkn)
      have hkx0 : wr.cell? ⟨gx, 0, none⟩ = some (.slice (some ⟨gl, 0, none⟩) l0.length cv) := by simp [World.cell?, hKk.box]
      have hC3w := Kd.C_below hC3 hKk.below
      have hf3 := hfh.out _ (List.getElem_mem hkn)
      have hrw : ∃ cs_, wr.ownsRow w2.heap.size 61 6 (.slice (some ⟨gl, 0, none⟩) l0.length cv) l0.length cs_ := by
        obtain ⟨cs_, vs_, h1, _⟩ := hHk
        exact ⟨cs_, h1⟩
      obtain ⟨cs_, hrow_⟩ := hrw
      have hF : ∀ W, Below wr.heap.size wr W → W.frozen? ⟨gl, k * 6 + 3, none⟩ = false := fun W hb => by
        obtain ⟨cur, hc⟩ := row_heap (ownsRow_on hrow_ hb)
        simp [World.frozen?, hc]
      go_wp2
      refine wp_mono (own_r6 gx gl l0.length cv c3 k A3 (l0[k]).f3 _ _ _ _ _ _ _ _ _ _ _ _ _ _ _ _ _ _ _ _ _ _ _ _ _ _ _ _ _ _ _ _ _ _ _ _ _ wr _ (by rfl) hkx0 hcell (by omega) (by omega) hC3w hc3 hf3 hF) ?_
      intro e a W' h_
      obtain ⟨rfl, Av, cv', wc, rfl, rfl, hR, hb⟩ := NoPanic.imp _ _ _ h_
      clear h_
      obtain ⟨cur, hcur⟩ := row_heap (ownsRow_on hrow_ hb)
      go_wp2
      go_roundw
      case rel => exact ⟨k + 1, hkn, by go_num, hHk.step hkn (List.getElem?_eq_getElem hkn) hKk.below.size hb hR, hKk.step hb hcur hglB⟩
      case measure => simp; omega
    · obtain rfl : k = l0.length := by omega
      have hd1 : decide ((l0.length : Int) < (l0.length : Int)) = false := decide_eq_false (by omega)
      have hkx0 : wr.cell? ⟨gx, 0, none⟩ = some (.slice (some ⟨gl, 0, none⟩) l0.length cv) := by simp [World.cell?, hKk.box]
      have hkx1 : wr.cell? ⟨gx, 1, none⟩ = some (.slice (some ⟨gm, 0, none⟩) l1.length l1.length) := by simp [World.cell?, hKk.box]
      have kb := heap_on kb2 hKk.below
      obtain ⟨b0, b1, bF⟩ := blk2 kb
      have bF0 := bF 0
      have bF1 := bF 1
      go_wp2
      refine bodyPost_ret (results_cell_row rfl _ _ (w.heap.size + 1) 25 #[.slice (some ⟨gl, 0, none⟩) l0.length cv, .slice (some ⟨gm, 0, none⟩) l1.length l1.length] (0, 0) _ rfl (put2 kb _ _) Try.underlying25 rfl (by kernel_rfl)) rfl ?_
      refine ⟨gl, cv, gm, rfl, ?_, ?_, ?_⟩
      · exact Half.full (Half.other (Half.other hHk kb (by decide) (by decide) _ _) (heap_put' kb) (by decide) (by decide) _ _) hzz
      · exact Kd.R_lower (Kd.R_set (Kd.R_set hKk.msgs kb (by decide) _ _) (heap_put' kb) (by decide) _ _) hzz
      · exact vbelow_set (vbelow_set (vbelow_step hBB hKk.below) (Nat.le_succ _)) (Nat.le_succ _)
end Go.Proofs.Ytcifbemppbegbaa.Q

/- Layer 10: own, where there is no lane. -/
namespace Go.Proofs.Ytcifbemppbegbaa.Q
open Go.RowKit Go.Proofs.YtcifbemppbegbaaW.PrintWords Go.Proofs.YtcifbemppbegbaaW.PrintMore Go.Proofs.YtcifbemppbegbaaW.PrintLast
set_option linter.unusedVariables false
set_option linter.unusedSimpArgs false
set_option maxRecDepth 100000 in
set_option maxHeartbeats 4000000 in
theorem own_nil (A0 A1 : Option Addr) (c0 c1 : Nat) (l1 : List S40) (w : World) (hC1 : Kd.C k40 w A1 l1.length l1) (hc1 : l1.length ≤ c1) (hn1 : l1.length ≤ 1000) :
    Calls Try.prog 37 #[.agg #[.slice A0 0 c0, .slice A1 l1.length c1]] w fun e w' => ∃ A cv gm, e = .returned (.agg #[.slice A 0 cv, .slice (some ⟨gm, 0, none⟩) l1.length l1.length]) ∧ Kd.R k40 40 w' w.heap.size (fun _ => True) (.slice (some ⟨gm, 0, none⟩) l1.length l1.length) l1 ∧ Below w.heap.size w w' := by
  have hb1 := World.alloc_heap_new w (.cells #[.slice A0 0 c0, .slice A1 l1.length c1] 25)
  have hb1' := heap_on hb1 (vbelow_alloc (Below.refl _ _) (.cells #[.slice none 0 0, .slice none 0 0] 25))
  have kb2 : ((w.alloc (.cells #[.slice A0 0 c0, .slice A1 l1.length c1] 25)).alloc (.cells #[.slice none 0 0, .slice none 0 0] 25)).heap[w.heap.size + 1]? = some (.cells #[.slice none 0 0, .slice none 0 0] 25 (0, 0)) := by
    have := heap_alloc_new (w.alloc (.cells #[.slice A0 0 c0, .slice A1 l1.length c1] 25)) (.cells #[.slice none 0 0, .slice none 0 0] 25)
    rwa [World.size_alloc] at this
  have k10 : ((w.alloc (.cells #[.slice A0 0 c0, .slice A1 l1.length c1] 25)).alloc (.cells #[.slice none 0 0, .slice none 0 0] 25)).cell? ⟨w.heap.size, 0, none⟩ = some (.slice A0 0 c0) := by simp [World.cell?, hb1']
  have k11 : ((w.alloc (.cells #[.slice A0 0 c0, .slice A1 l1.length c1] 25)).alloc (.cells #[.slice none 0 0, .slice none 0 0] 25)).cell? ⟨w.heap.size, 1, none⟩ = some (.slice A1 l1.length c1) := by simp [World.cell?, hb1']
  have hBB : Below w.heap.size w ((w.alloc (.cells #[.slice A0 0 c0, .slice A1 l1.length c1] 25)).alloc (.cells #[.slice none 0 0, .slice none 0 0] 25)) := vbelow_alloc (vbelow_alloc (Below.refl _ _) _) _
  have hC12 := Kd.C_below hC1 hBB
  clear hb1 hC1
  go_enter Try.func37, Try.ntmps37
  go_wp2
  refine wp_mono (own_r1 A0 A1 c0 c1 [] l1 w.heap.size (w.heap.size + 1) _ _ (by rfl) k10 k11 [] rfl (fun u hu => by cases hu) (fun ad' e j u hj => by cases hj) (fun _ => rfl) (by simp) hn1) ?_
  generalize (w.alloc (.cells #[.slice A0 0 c0, .slice A1 l1.length c1] 25)).alloc (.cells #[.slice none 0 0, .slice none 0 0] 25) = w2 at hb1' kb2 k10 k11 hBB hC12
  intro e a W h_
  obtain ⟨rfl, Av, cv, gm, gx, rfl, hOc, hMr, hGx, hgx, hBW⟩ := NoPanic.imp _ _ _ h_
  clear h_
  obtain ⟨csm, hom⟩ := R40_own hMr
  rw [List.length_replicate] at hom
  obtain ⟨curm, hgmW⟩ := row_heap hom
  have hmx : gm ≠ gx := fun e => by
    rw [e, hGx] at hgmW
    simp at hgmW
  have k11W := vcell hBW k11
  have kx0 : W.cell? ⟨gx, 0, none⟩ = some (.slice Av 0 cv) := by simp [World.cell?, hGx]
  have kx1 : W.cell? ⟨gx, 1, none⟩ = some (.slice (some ⟨gm, 0, none⟩) l1.length l1.length) := by simp [World.cell?, hGx]
  have hC1W := Kd.C_below hC12 hBW
  have hzz := hBB.size
  go_wp2_with ((with_reducible refine gate_builtin (b := .copy) (xs := #[.tmp 14, .tmp 16]) rfl ?_); refine wpList_copy40 (w0 := w2) w2.heap.size rfl (.tmp 14) (.tmp 16) rfl (.slice (some ⟨gm, 0, none⟩) l1.length l1.length) (List.replicate l1.length z40) l1 A1 c1 rfl rfl hMr List.length_replicate hC1W hBW ?_; intro W1 hM1 hB1 hg1; have hx1 := (hg1.block gx (Array.getElem?_eq_some_iff.1 hGx).1 (fun e => hmx (Option.some.inj e).symm)).trans hGx; have kz0 : W1.cell? ⟨gx, 0, none⟩ = some (.slice Av 0 cv) := (by simp [World.cell?, hx1]))
  have hzz1 : w2.heap.size ≤ W1.heap.size := hB1.size
  have hKp : OwnKeep w2 W1 gx gm (.slice Av 0 cv) l1 := ⟨hx1, hM1, hB1⟩
  clear hOc hMr hM1 hGx hx1 kx0 kx1 kz0 k11W hC1W hom hgmW hg1 hB1
  go_loopw [21] (fun v21 wr => v21 = .int .i64 0 ∧ OwnKeep w2 wr gx gm (.slice Av 0 cv) l1)
    (fun v21 _ => 0)
  case atStart => exact ⟨rfl, hKp⟩
  case round =>
    obtain ⟨rfl, hKk⟩ := hrel
    have hkx0 : wr.cell? ⟨gx, 0, none⟩ = some (.slice Av 0 cv) := by simp [World.cell?, hKk.box]
    have hkx1 : wr.cell? ⟨gx, 1, none⟩ = some (.slice (some ⟨gm, 0, none⟩) l1.length l1.length) := by simp [World.cell?, hKk.box]
    have kb := heap_on kb2 hKk.below
    obtain ⟨b0, b1, bF⟩ := blk2 kb
    have bF0 := bF 0
    have bF1 := bF 1
    go_wp2
    refine bodyPost_ret (results_cell_row rfl _ _ (w.heap.size + 1) 25 #[.slice Av 0 cv, .slice (some ⟨gm, 0, none⟩) l1.length l1.length] (0, 0) _ rfl (put2 kb _ _) Try.underlying25 rfl (by kernel_rfl)) rfl ?_
    refine ⟨Av, cv, gm, rfl, ?_, ?_⟩
    · exact Kd.R_lower (Kd.R_set (Kd.R_set hKk.msgs kb (by decide) _ _) (heap_put' kb) (by decide) _ _) hzz
    · exact vbelow_set (vbelow_set (vbelow_step hBB hKk.below) (Nat.le_succ _)) (Nat.le_succ _)
end Go.Proofs.Ytcifbemppbegbaa.Q

/- Layer 10: lanes of a block, as they are read and written cell by cell. -/
namespace Go.Proofs.Ytcifbemppbegbaa.Q
open Go.RowKit Go.Proofs.YtcifbemppbegbaaW.PrintWords Go.Proofs.YtcifbemppbegbaaW.PrintMore Go.Proofs.YtcifbemppbegbaaW.PrintLast
set_option linter.unusedVariables false
set_option linter.unusedSimpArgs false
/-- What holds whole numbers stands. -/
def K3 (W W' : World) : Prop := ∀ (k : Nat) (cells : Array Value), W.heap[k]? = some (.cells cells 3 (0, 0)) → W'.heap[k]? = W.heap[k]?
theorem K3.rfl' (W : World) : K3 W W := fun _ _ _ => rfl
theorem K3.trans {W W1 W2 : World} (h : K3 W W1) (h' : K3 W1 W2) : K3 W W2 := fun k cells hk => (h' k cells ((h k cells hk).trans hk)).trans (h k cells hk)
theorem K3.on {W W1 : World} (h : Below W.heap.size W W1) : K3 W W1 := fun k _ hk => h.block k (Array.getElem?_eq_some_iff.1 hk).1
theorem K3.set {W : World} {g t : Nat} {cells : Array Value} (hg : W.heap[g]? = some (.cells cells t (0, 0))) (ht : t ≠ 3) (j : Nat) (u : Value) : K3 W (W.setCell ⟨g, j, none⟩ u) := fun k cs hk => Below.heap_setCell W ⟨g, j, none⟩ u k (fun e => by
  have e' : k = g := e
  subst e'
  rw [hk] at hg
  injection hg with hg
  injection hg with _ hg
  exact ht hg.symm)
theorem R3_K3 {W : World} {B : Nat} {ok : Nat → Prop} {A : Option Addr} {n c : Nat} {f : List Int} (h : (Kd.int .i64).R 3 W B ok (.slice A n c) f) : n = f.length ∧ f.length ≤ c ∧ ∀ W', K3 W W' → (Kd.int .i64).C W' A f.length f := by
  have h1 := Kd.R_reads' h
  refine ⟨h1.1, by have := h1.2.1; have := h1.1; omega, fun W' hk => ?_⟩
  exact (Kd.R_reads' (Kd.R_move (Kd.R_bound h) (fun k hk' => by
    obtain ⟨_, _, _, q, hq, cells, hc⟩ := hk'
    rcases List.mem_cons.1 hq with rfl | hq
    · exact hk k cells hc
    · cases hq))).2.2
theorem C3_K3_drop {W : World} {A : Option Addr} {c m : Nat} {f : List Int} (h : ∀ W', K3 W W' → (Kd.int .i64).C W' A f.length f) (hm : m ≤ f.length) (hc : f.length ≤ c) : ∀ W', K3 W W' → (Kd.int .i64).C W' (if c = m then A else A.map (·.add (m * 1))) (f.drop m).length (f.drop m) := fun W' hk => Kd.C_drop (h W' hk) hm hc
def chunk (x : S61) (A : Option Addr) (c : Nat) : List Value := [.int .i64 x.f0, .bool x.f1, .int .i64 x.f2, .slice A x.f3.length c, .int .i64 x.f4, .int .i64 x.f5]
def Rd (W : World) (gl : Nat) (xs : List S61) : Prop := ∃ cur : Array Value, W.heap[gl]? = some (.cells cur 61 (0, 0)) ∧ ∀ (j : Nat) (x : S61), xs[j]? = some x → ∃ A c, (cur.toList.drop (j * 6)).take 6 = chunk x A c ∧ x.f3.length ≤ c ∧ ∀ W' : World, K3 W W' → (Kd.int .i64).C W' A x.f3.length x.f3
theorem Rd.move {W W' : World} {gl : Nat} {xs : List S61} (h : Rd W gl xs) (hg : W'.heap[gl]? = W.heap[gl]?) (hk : K3 W W') : Rd W' gl xs := by
  obtain ⟨cur, h1, h2⟩ := h
  refine ⟨cur, hg.trans h1, fun j x hx => ?_⟩
  obtain ⟨A, c, h3, h4, h5⟩ := h2 j x hx
  exact ⟨A, c, h3, h4, fun W2 hk2 => h5 W2 (hk.trans hk2)⟩
theorem Rd.on {W W' : World} {gl : Nat} {xs : List S61} (h : Rd W gl xs) (hb : Below W.heap.size W W') : Rd W' gl xs := by
  obtain ⟨cur, h1, _⟩ := id h
  exact h.move (hb.block _ (Array.getElem?_eq_some_iff.1 h1).1) (K3.on hb)
theorem Rd.other {W : World} {gl : Nat} {xs : List S61} (h : Rd W gl xs) {g t : Nat} {cells : Array Value} (hg : W.heap[g]? = some (.cells cells t (0, 0))) (h1 : t ≠ 61) (h2 : t ≠ 3) (j : Nat) (u : Value) : Rd (W.setCell ⟨g, j, none⟩ u) gl xs := by
  obtain ⟨cur, h3, _⟩ := id h
  refine h.move (Below.heap_setCell W ⟨g, j, none⟩ u gl (fun e => ?_)) (K3.set hg h2 j u)
  have e' : gl = g := e
  subst e'
  rw [h3] at hg
  injection hg with hg
  injection hg with _ hg
  exact h1 hg.symm
theorem take6_put {cs : List Value} {i j r : Nat} {u : Value} (hr : r < 6) : ((cs.set (i * 6 + r) u).drop (j * 6)).take 6 = if i = j then ((cs.drop (j * 6)).take 6).set r u else (cs.drop (j * 6)).take 6 := by
  rw [List.drop_set]
  by_cases h : i * 6 + r < j * 6
  · rw [if_pos h, if_neg (by omega)]
  · rw [if_neg h, List.take_set]
    by_cases hij : i = j
    · subst hij
      rw [if_pos rfl, show i * 6 + r - i * 6 = r by omega]
    · rw [if_neg hij]
      apply List.set_eq_of_length_le
      have := List.length_take_le 6 (cs.drop (j * 6))
      omega
theorem Rd.put {W : World} {gl i r : Nat} {xs : List S61} {x x' : S61} {u : Value} (h : Rd W gl xs) (hx : xs[i]? = some x) (hr : r < 6)
    (hu : ∀ A c, x.f3.length ≤ c → (∀ W', K3 W W' → (Kd.int .i64).C W' A x.f3.length x.f3) → ∃ A' c', (chunk x A c).set r u = chunk x' A' c' ∧ x'.f3.length ≤ c' ∧ ∀ W', K3 W W' → (Kd.int .i64).C W' A' x'.f3.length x'.f3) :
    Rd (W.setCell ⟨gl, i * 6 + r, none⟩ u) gl (xs.set i x') := by
  obtain ⟨cur, h1, h2⟩ := h
  have hK := K3.set h1 (by decide) (i * 6 + r) u
  refine ⟨cur.setIfInBounds (i * 6 + r) u, heap_put' h1, fun j y hy => ?_⟩
  rw [Array.toList_setIfInBounds, take6_put hr]
  rw [List.getElem?_set] at hy
  by_cases hij : i = j
  · subst hij
    rw [if_pos rfl] at hy ⊢
    split at hy
    · obtain rfl := Option.some.inj hy
      obtain ⟨A, c, h3, h4, h5⟩ := h2 i x hx
      obtain ⟨A', c', h6, h7, h8⟩ := hu A c h4 h5
      rw [h3]
      exact ⟨A', c', h6, h7, fun W2 hk2 => h8 W2 (hK.trans hk2)⟩
    · cases hy
  · rw [if_neg hij] at hy ⊢
    obtain ⟨A, c, h3, h4, h5⟩ := h2 j y hy
    exact ⟨A, c, h3, h4, fun W2 hk2 => h5 W2 (hK.trans hk2)⟩
theorem Rd.put2 {W : World} {gl i : Nat} {xs : List S61} {x : S61} (h : Rd W gl xs) (hx : xs[i]? = some x) (z : Int) : Rd (W.setCell ⟨gl, i * 6 + 2, none⟩ (.int .i64 z)) gl (xs.set i { x with f2 := z }) := h.put hx (by decide) (fun A c h1 h2 => ⟨A, c, rfl, h1, h2⟩)
theorem Rd.put4 {W : World} {gl i : Nat} {xs : List S61} {x : S61} (h : Rd W gl xs) (hx : xs[i]? = some x) (z : Int) : Rd (W.setCell ⟨gl, i * 6 + 4, none⟩ (.int .i64 z)) gl (xs.set i { x with f4 := z }) := h.put hx (by decide) (fun A c h1 h2 => ⟨A, c, rfl, h1, h2⟩)
theorem Rd.put3 {W : World} {gl i : Nat} {xs : List S61} {x : S61} (h : Rd W gl xs) (hx : xs[i]? = some x) {A' : Option Addr} {c' : Nat} {f' : List Int} (hc : f'.length ≤ c') (hC : ∀ W', K3 W W' → (Kd.int .i64).C W' A' f'.length f') : Rd (W.setCell ⟨gl, i * 6 + 3, none⟩ (.slice A' f'.length c')) gl (xs.set i { x with f3 := f' }) := h.put hx (by decide) (fun A c h1 h2 => ⟨A', c', rfl, hc, hC⟩)
theorem cell_in {W : World} {g o : Nat} {cur : Array Value} {t : TypeId} (h : W.heap[g]? = some (.cells cur t (0, 0))) : W.cell? ⟨g, o, none⟩ = cur[o]? := by
  unfold World.cell?
  rw [show W.heap[g]? = _ from h]
  rfl
theorem frozen_in {W : World} {g o : Nat} {cur : Array Value} {t : TypeId} (h : W.heap[g]? = some (.cells cur t (0, 0))) : W.frozen? ⟨g, o, none⟩ = false := by
  unfold World.frozen?
  rw [show W.heap[g]? = _ from h]
  simp
/-- A lane's cells. -/
theorem Rd.cells {W : World} {gl i : Nat} {xs : List S61} {x : S61} (h : Rd W gl xs) (hx : xs[i]? = some x) : ∃ A c, W.cell? ⟨gl, i * 6, none⟩ = some (.int .i64 x.f0) ∧ W.cell? ⟨gl, i * 6 + 1, none⟩ = some (.bool x.f1) ∧ W.cell? ⟨gl, i * 6 + 2, none⟩ = some (.int .i64 x.f2) ∧ W.cell? ⟨gl, i * 6 + 3, none⟩ = some (.slice A x.f3.length c) ∧ W.cell? ⟨gl, i * 6 + 4, none⟩ = some (.int .i64 x.f4) ∧ W.cell? ⟨gl, i * 6 + 5, none⟩ = some (.int .i64 x.f5) ∧ (∀ o, W.frozen? ⟨gl, o, none⟩ = false) ∧ x.f3.length ≤ c ∧ ∀ W' : World, K3 W W' → (Kd.int .i64).C W' A x.f3.length x.f3 := by
  obtain ⟨cur, h1, h2⟩ := h
  obtain ⟨A, c, h3, h4, h5⟩ := h2 i x hx
  have at_ : ∀ r, r < 6 → W.cell? ⟨gl, i * 6 + r, none⟩ = (chunk x A c)[r]? := fun r hr => by
    rw [cell_in h1, ← h3, List.getElem?_take, if_pos hr, List.getElem?_drop, Array.getElem?_toList]
  exact ⟨A, c, (at_ 0 (by decide)), (at_ 1 (by decide)), (at_ 2 (by decide)), (at_ 3 (by decide)), (at_ 4 (by decide)), (at_ 5 (by decide)), fun o => frozen_in h1, h4, h5⟩
theorem Rd.C {W : World} {gl : Nat} {xs : List S61} (h : Rd W gl xs) (hl : xs.length ≤ 9223372036854775807) : Kd.C k61 W (some ⟨gl, 0, none⟩) xs.length xs := by
  refine ⟨rfl, hl, fun _ => ⟨_, rfl, fun j x hx => ?_⟩⟩
  obtain ⟨cur, h1, h2⟩ := h
  obtain ⟨A, c, h3, h4, h5⟩ := h2 j x hx
  refine ⟨chunk x A c, rfl, k61_mk W x h4 (h5 W (K3.rfl' W)), fun r u hu => ?_⟩
  have hr : r < 6 := (List.getElem?_eq_some_iff.1 hu).1
  have e : (Addr.add ⟨gl, 0, none⟩ (j * k61.sz + r)) = ⟨gl, j * 6 + r, none⟩ := by
    show Addr.add ⟨gl, 0, none⟩ (j * 6 + r) = _
    unfold Addr.add
    by_cases h0 : j * 6 + r = 0
    · rw [h0]; rfl
    · rw [if_neg h0, Nat.zero_add]
  rw [e, cell_in h1]
  rw [← h3, List.getElem?_take, if_pos hr, List.getElem?_drop, Array.getElem?_toList] at hu
  exact hu
theorem Half.heap {w0 W : World} {B gl n cap : Nat} {xs : List S61} (h : Half w0 B W gl n cap xs n) : ∃ (cur : Array Value) (cs vs : List Value), W.heap[gl]? = some (.cells cur 61 (0, 0)) ∧ n = xs.length ∧ (∀ j, j < n → (cur.toList.drop (j * 6)).take 6 = (cs.drop (j * 6)).take 6) ∧ vs.length = n ∧ (∀ (j : Nat) (x : S61) (u : Value), xs[j]? = some x → vs[j]? = some u → (cs.drop (j * 6)).take 6 = [.int .i64 x.f0, .bool x.f1, .int .i64 x.f2, u, .int .i64 x.f4, .int .i64 x.f5]) ∧
  (∀ (j : Nat) (x : S61) (u : Value), j < n → xs[j]? = some x → vs[j]? = some u → (Kd.int .i64).R 3 W B (fun _ => True) u x.f3) ∧
  (∀ (j : Nat) (u : Value) (k : Nat), j < n → vs[j]? = some u → u.ownBlock = some k → k ≠ gl) ∧
  (∀ (j j' : Nat) (u u' : Value), j < n → j' < n → j ≠ j' → vs[j]? = some u → vs[j']? = some u' → u.ownBlock = none ∨ u.ownBlock ≠ u'.ownBlock) := by
  obtain ⟨cs, vs, hrow, hn, hcl, hvl, hch, hown, hin, hgl, hne⟩ := h
  rcases hrow.2 with ⟨h2, _⟩ | ⟨g', cap', cur, hv, h1, hh, hle, hcap, hsz, htake⟩
  · cases h2
  · injection hv with e1 e2 e3
    injection e1 with e4
    injection e4 with e5
    subst e5
    refine ⟨cur, cs, vs, hh, hn, fun j hj => ?_, hvl, hch, hown, hgl, hne⟩
    rw [← htake]
    apply List.ext_getElem?
    intro r
    simp only [List.getElem?_take, List.getElem?_drop]
    by_cases hr : r < 6
    · rw [if_pos hr, if_pos hr, if_pos (by omega)]
    · rw [if_neg hr, if_neg hr]
/-- A lane's claims have gone on: the rest stands. -/
theorem Half.regrown {w0 W W1 : World} {B b gl n cap i c cv : Nat} {xs : List S61} {x : S61} {A Av : Option Addr} {f' : List Int} (h : Half w0 B W gl n cap xs n) (hx : xs[i]? = some x) (hu : W.cell? ⟨gl, i * 6 + 3, none⟩ = some (.slice A x.f3.length c)) (hg : W.grownBy W1 (Value.slice A x.f3.length c).ownBlock) (hR : (Kd.int .i64).R 3 W1 b (fun _ => True) (.slice Av f'.length cv) f') :
    Rd (W1.setCell ⟨gl, i * 6 + 3, none⟩ (.slice Av f'.length cv)) gl (xs.set i { x with f3 := f' }) := by
  obtain ⟨cur, cs, vs, h1, hn, htk, hvl, hch, hown, hgl, hne⟩ := h.heap
  have hil : i < n := by have := (List.getElem?_eq_some_iff.1 hx).1; omega
  have hvi : vs[i]? = some vs[i] := List.getElem?_eq_getElem (by omega)
  have hui : vs[i] = .slice A x.f3.length c := by
    have h3 := chunk_at ((htk i hil).trans (hch i x _ hx hvi))
    rw [cell_in h1] at hu
    rw [Array.getElem?_toList, hu] at h3
    exact (Option.some.inj h3).symm
  rw [hui] at hvi
  have hg1 : W1.heap[gl]? = some (.cells cur 61 (0, 0)) := (hg.block gl (Array.getElem?_eq_some_iff.1 h1).1 (fun e => hgl i _ gl hil hvi e.symm rfl)).trans h1
  have hK := K3.set hg1 (by decide) (i * 6 + 3) (.slice Av f'.length cv)
  refine ⟨cur.setIfInBounds (i * 6 + 3) (.slice Av f'.length cv), heap_put' hg1, fun j y hy => ?_⟩
  rw [Array.toList_setIfInBounds, take6_put (by decide)]
  have hjl : j < n := by have := (List.getElem?_eq_some_iff.1 hy).1; rw [List.length_set] at this; omega
  rw [List.getElem?_set] at hy
  by_cases hij : i = j
  · subst hij
    rw [if_pos rfl] at hy ⊢
    rw [if_pos (by omega)] at hy
    obtain rfl := Option.some.inj hy
    rw [htk i hil, hch i x _ hx hvi]
    obtain ⟨_, h3, h4⟩ := R3_K3 hR
    exact ⟨Av, cv, rfl, h3, fun W2 hk2 => h4 W2 (hK.trans hk2)⟩
  · rw [if_neg hij] at hy ⊢
    have hvj : vs[j]? = some vs[j] := List.getElem?_eq_getElem (by omega)
    have hRj := hown j y _ hjl hy hvj
    have hRj1 : (Kd.int .i64).R 3 W1 B (fun k => vs[j].ownBlock = some k) vs[j] y.f3 := Kd.R_grown (R_tight hRj (ok' := fun k => vs[j].ownBlock = some k) (fun k hk => hk)) hg (fun k hk => by
      rcases hne j i _ _ hjl hil (fun e => hij e.symm) hvj hvi with h3 | h3
      · rw [h3] at hk; cases hk
      · rw [← hk]; exact h3)
    obtain ⟨A2, c2, e2⟩ := Kd.R_slice hRj1
    rw [htk j hjl, hch j y _ hy hvj, e2]
    rw [e2] at hRj1
    obtain ⟨_, h3, h4⟩ := R3_K3 hRj1
    exact ⟨A2, c2, rfl, h3, fun W2 hk2 => h4 W2 (hK.trans hk2)⟩
theorem Half.rd {w0 W : World} {B gl n cap : Nat} {xs : List S61} (h : Half w0 B W gl n cap xs n) : Rd W gl xs := by
  obtain ⟨cur, cs, vs, h1, hn, htk, hvl, hch, hown, hgl, hne⟩ := h.heap
  refine ⟨cur, h1, fun j y hy => ?_⟩
  have hjl : j < n := by have := (List.getElem?_eq_some_iff.1 hy).1; omega
  have hvj : vs[j]? = some vs[j] := List.getElem?_eq_getElem (by omega)
  have hRj := hown j y _ hjl hy hvj
  obtain ⟨A2, c2, e2⟩ := Kd.R_slice hRj
  rw [htk j hjl, hch j y _ hy hvj, e2]
  rw [e2] at hRj
  obtain ⟨_, h3, h4⟩ := R3_K3 hRj
  exact ⟨A2, c2, rfl, h3, h4⟩
/-- A lane's claims are the call's own. -/
theorem Half.claims {w0 W : World} {B gl n cap i c : Nat} {xs : List S61} {x : S61} {A : Option Addr} (h : Half w0 B W gl n cap xs n) (hx : xs[i]? = some x) (hu : W.cell? ⟨gl, i * 6 + 3, none⟩ = some (.slice A x.f3.length c)) : (Kd.int .i64).R 3 W B (fun _ => True) (.slice A x.f3.length c) x.f3 := by
  obtain ⟨cur, cs, vs, h1, hn, htk, hvl, hch, hown, hgl, hne⟩ := h.heap
  have hil : i < n := by have := (List.getElem?_eq_some_iff.1 hx).1; omega
  have hvi : vs[i]? = some vs[i] := List.getElem?_eq_getElem (by omega)
  have hui : vs[i] = .slice A x.f3.length c := by
    have h3 := chunk_at ((htk i hil).trans (hch i x _ hx hvi))
    rw [cell_in h1] at hu
    rw [Array.getElem?_toList, hu] at h3
    exact (Option.some.inj h3).symm
  rw [hui] at hvi
  exact hown i x _ hil hx hvi
end Go.Proofs.Ytcifbemppbegbaa.Q
