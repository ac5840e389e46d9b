/- Layer 10: the first region of own. -/
import Derived.Test.YtcifbemppbegbaaA4
import Derived.Test.YtcifbemppbegbaaV
import Derived.Test.YtcifbemppbegbaaWLast
namespace Go.Proofs.Ytcifbemppbegbaa.Q
open Go.RowKit Go.Proofs.YtcifbemppbegbaaW.PrintWords Go.Proofs.YtcifbemppbegbaaW.PrintMore Go.Proofs.YtcifbemppbegbaaW.PrintLast
set_option linter.unusedVariables false
set_option linter.unusedSimpArgs false
theorem heap_put' {w : World} {b j : Nat} {cs : Array Value} {t : TypeId} {u : Value} (h : w.heap[b]? = some (.cells cs t (0, 0))) : (w.setCell ⟨b, j, none⟩ u).heap[b]? = some (.cells (cs.setIfInBounds j u) t (0, 0)) := by
  obtain ⟨hlt, hk⟩ := Array.getElem?_eq_some_iff.1 h
  show (w.heap.modify b _)[b]? = _
  rw [Array.getElem?_eq_getElem (by rw [Array.size_modify]; exact hlt), Array.getElem_modify_self, hk]
  rfl
theorem heap_on {w W : World} {g : Nat} {o : Obj} (h : w.heap[g]? = some o) (hb : Below w.heap.size w W) : W.heap[g]? = some o := (hb.block g (Array.getElem?_eq_some_iff.1 h).1).trans h
theorem ownsRow_on {W W' : World} {b e s k : Nat} {v : Value} {xs : List Value} (h : W.ownsRow b e s v k xs) (hb : Below W.heap.size W W') : W'.ownsRow b e s v k xs := by
  refine ⟨h.1, ?_⟩
  rcases h.2 with h2 | ⟨g, cap, cur, rfl, h1, hg, h3⟩
  · exact .inl h2
  · exact .inr ⟨g, cap, cur, rfl, h1, heap_on hg hb, h3⟩
theorem ownsRow_down {W : World} {b b' e s k : Nat} {v : Value} {xs : List Value} (h : W.ownsRow b e s v k xs) (hb : b' ≤ b) : W.ownsRow b' e s v k xs := by
  refine ⟨h.1, ?_⟩
  rcases h.2 with h2 | ⟨g, cap, cur, e1, h1, h2⟩
  · exact .inl h2
  · exact .inr ⟨g, cap, cur, e1, Nat.le_trans hb h1, h2⟩
theorem ownsRow_form {W : World} {b e s n : Nat} {v : Value} {xs : List Value} (h : W.ownsRow b e s v n xs) : ∃ A c, v = .slice A n c := by
  rcases h.2 with ⟨rfl, h0⟩ | ⟨g, cap, cur, rfl, _⟩
  · rw [h0]
    exact ⟨_, _, rfl⟩
  · exact ⟨_, _, rfl⟩
theorem ownsRow_set {W : World} {b e s n gx : Nat} {v : Value} {xs : List Value} {cells : Array Value} {t : TypeId} (h : W.ownsRow b e s v n xs) (hg : W.heap[gx]? = some (.cells cells t (0, 0))) (hte : t ≠ e) (j : Nat) (u : Value) : (W.setCell ⟨gx, j, none⟩ u).ownsRow b e s v n xs := by
  refine ⟨h.1, ?_⟩
  rcases h.2 with h2 | ⟨g, cap, cur, rfl, h1, hq, h3⟩
  · exact .inl h2
  · have hne : g ≠ gx := fun e_ => by
      rw [e_] at hq
      have h4 := hg.symm.trans hq
      simp at h4
      exact hte h4.2
    exact .inr ⟨g, cap, cur, rfl, h1, (Below.heap_setCell W ⟨gx, j, none⟩ u g hne).trans hq, h3⟩
theorem R40_set {W : World} {base gx : Nat} {v : Value} {l : List S40} {cells : Array Value} (h : k40.R 40 W base (fun _ => True) v l) (hg : W.heap[gx]? = some (.cells cells 25 (0, 0))) (j : Nat) (u : Value) : k40.R 40 (W.setCell ⟨gx, j, none⟩ u) base (fun _ => True) v l := by
  obtain ⟨h0, inner, ho, hr⟩ := h
  exact ⟨h0, inner, ownsRow_set ho hg (by decide) j u, hr.imp_ fun x cs e => by rw [k40_openM e]; exact k40_mkM _ _ _ x⟩
set_option maxRecDepth 100000 in
set_option maxHeartbeats 4000000 in
theorem own_r1 (A0 A1 : Option Addr) (c0 c1 : Nat) (l0 : List S61) (l1 : List S40) (b1 b2 : Nat) (w : World) (ops : Array Oper) (hops : opsOf Try.f37 1 = ops) (hc0_ : w.cell? ⟨b1, 0, none⟩ = some (.slice A0 l0.length c0)) (hc1_ : w.cell? ⟨b1, 1, none⟩ = some (.slice A1 l1.length c1)) (cs : List Value) (hcl : cs.length = l0.length * 6) (hone : ∀ u ∈ cs, u.oneCell' = true) (hcell : ∀ ad, A0 = some ad → ∀ (j : Nat) u, cs[j]? = some u → w.cell? (ad.add j) = some u) (hnone : A0 = none → l0.length = 0) (hb0 : l0.length ≤ 1000000) (hn1 : l1.length ≤ 1000) :
    (Code.region 1 ops true).wp Try.prog (NoPanic fun e a w' => e = .normal ∧ ∃ Av cv gm gx, a = { tmps := #[.agg #[.slice A0 l0.length c0, .slice A1 l1.length c1], .pointer (some ⟨b1, 0, none⟩), .pointer (some ⟨b2, 0, none⟩), .pointer (some ⟨gx, 0, none⟩), undef, .pointer (some ⟨b1, 0, none⟩), .slice A0 l0.length c0, .slice Av l0.length cv, .pointer (some ⟨b1, 1, none⟩), .slice A1 l1.length c1, .int .i64 (l1.length : Int), .slice (some ⟨gm, 0, none⟩) l1.length l1.length, .agg #[.slice Av l0.length cv, .slice (some ⟨gm, 0, none⟩) l1.length l1.length], undef, undef, undef, undef, undef, undef, undef, undef, undef, undef, undef, undef, undef, undef, undef, undef, undef, undef, undef, undef, undef, undef, undef, undef, undef], defers := [] } ∧ w'.ownsRow w.heap.size 61 6 (.slice Av l0.length cv) l0.length cs ∧ k40.R 40 w' w.heap.size (fun _ => True) (.slice (some ⟨gm, 0, none⟩) l1.length l1.length) (List.replicate l1.length z40) ∧ w'.heap[gx]? = some (.cells #[.slice Av l0.length cv, (.slice (some ⟨gm, 0, none⟩) l1.length l1.length)] 25 (0, 0)) ∧ w.heap.size ≤ gx ∧ Below w.heap.size w w') { tmps := #[.agg #[.slice A0 l0.length c0, .slice A1 l1.length c1], .pointer (some ⟨b1, 0, none⟩), .pointer (some ⟨b2, 0, none⟩), undef, undef, undef, undef, undef, undef, undef, undef, undef, undef, undef, undef, undef, undef, undef, undef, undef, undef, undef, undef, undef, undef, undef, undef, undef, undef, undef, undef, undef, undef, undef, undef, undef, undef, undef], defers := [] } w := by
    simp [opsOf, opsIn, Try.f37] at hops
    subst hops
    have hS : Below w.heap.size w w.drew := vbelow_drew (Below.refl _ _)
    have hmk := run_mk40 l1.length hn1
    have hmR := mk40_R l1.length hn1
    generalize hmq : mk40 l1.length = mq at hmk hmR
    clear hmq
    refine start_ (n := 10) (S := fun w' => w'.cell? ⟨b1, 0, none⟩ = some (.slice A0 l0.length c0) ∧ w'.cell? ⟨b1, 1, none⟩ = some (.slice A1 l1.length c1)) (ds := [9]) #[false, false, false, false, false, false, false, false, false, false] (by kernel_rfl) rfl rfl ⟨hc0_, hc1_⟩ (fun hHeld => ?_)
    refine pure_ (i := 0) (N := some 5) (v := ?_) (a' := ?_) #[true, false, false, false, false, false, false, false, false, false] rfl rfl (by kernel_rfl) (fun _ _ _ h => h) (Or.inl ⟨by rfl, ?_⟩) ?_ ?_
    rotate_left
    · intro w'
      go_simp
      with_reducible rfl
    rotate_left
    · simp only [Act.put, List.setIfInBounds_toArray, List.set_cons_zero, List.set_cons_succ]
      rfl
    refine pure_ (i := 3) (N := some 8) (v := ?_) (a' := ?_) #[true, false, false, true, false, false, false, false, false, false] rfl rfl (by kernel_rfl) (fun _ _ _ h => h) (Or.inl ⟨by rfl, ?_⟩) ?_ ?_
    rotate_left
    · intro w'
      go_simp
      with_reducible rfl
    rotate_left
    · simp only [Act.put, List.setIfInBounds_toArray, List.set_cons_zero, List.set_cons_succ]
      rfl
    refine take_ (i := 1) (N := some 6) (v := ?_) (a' := ?_) #[true, true, false, true, false, false, false, false, false, false] rfl rfl (by kernel_rfl) (fun _ _ _ h => h) (Or.inl ⟨by rfl, ?_⟩) hHeld ?_ ?_
    rotate_left
    · rintro w' ⟨s0, s1⟩
      go_simp
      with_reducible rfl
    rotate_left
    · simp only [Act.put, List.setIfInBounds_toArray, List.set_cons_zero, List.set_cons_succ]
      rfl
    refine take_ (i := 4) (N := some 9) (v := ?_) (a' := ?_) #[true, true, false, true, true, false, false, false, false, false] rfl rfl (by kernel_rfl) (fun _ _ _ h => h) (Or.inl ⟨by rfl, ?_⟩) hHeld ?_ ?_
    rotate_left
    · rintro w' ⟨s0, s1⟩
      go_simp
      with_reducible rfl
    rotate_left
    · simp only [Act.put, List.setIfInBounds_toArray, List.set_cons_zero, List.set_cons_succ]
      rfl
    refine pure_ (i := 5) (N := some 10) (v := ?_) (a' := ?_) #[true, true, false, true, true, true, false, false, false, false] rfl rfl (by kernel_rfl) (fun _ _ _ h => h) (Or.inl ⟨by rfl, ?_⟩) ?_ ?_
    rotate_left
    · intro w'
      go_simp
      with_reducible rfl
    rotate_left
    · simp only [Act.put, List.setIfInBounds_toArray, List.set_cons_zero, List.set_cons_succ]
      rfl
    generalize w.drew = W0 at hS hHeld ⊢
    refine three_ (i := 2) (j := 6) (k := 8) (Ni := some 7) (Nj := some 11) (Nk := some 3) #[true, true, true, true, true, true, false, false, false, false] #[true, true, false, true, true, true, true, false, false, false] #[true, true, false, true, true, true, false, false, true, false] rfl rfl rfl rfl rfl rfl (by kernel_rfl) (by decide) (by decide) (by decide) (fun K hK => ?_) (fun K hK => ?_) (fun K hK => ?_)
    · rw [if_pos (by rfl)]
      go_simp
      refine (clone_cells A0 c0 l0.length cs _ hcl hone (fun ad ha j u hj => vcell hS (hcell ad ha j u hj)) hnone hb0).mono ?_
      rintro e W1 ⟨v, rfl, hCo, hb_⟩
      obtain ⟨Av, cv, rfl⟩ := ownsRow_form hCo
      have hCo := ownsRow_down hCo hS.size
      refine hK.out _ _ ⟨vcell hb_ hHeld.1, vcell hb_ hHeld.2⟩ (fun hHeld => ?_)
      clear hK K
      have hS := vbelow_step hS hb_
      clear hb_
      refine two_ (i := 6) (j := 8) (Ni := some 11) (Nj := some 3) #[true, true, true, true, true, true, true, false, false, false] #[true, true, true, true, true, true, false, false, true, false] rfl rfl rfl rfl (by kernel_rfl) (by decide) (by decide) (fun K hK => ?_) (fun K hK => ?_)
      · rw [if_pos (by rfl)]
        go_simp
        have hMr := hmR W1 w.heap.size W1.heap.size hS.size rfl
        have hb_ : Below W1.heap.size W1 (W1.alloc (.cells mq 40)) := vbelow_alloc (Below.refl _ _) _
        refine hK.out _ _ ⟨vcell_alloc hHeld.1 _, vcell_alloc hHeld.2 _⟩ (fun hHeld => ?_)
        clear hK K
        generalize hWq : W1.alloc (.cells mq 40) = W2 at hMr hb_ hHeld ⊢
        generalize W1.heap.size = gm at hMr ⊢
        clear hWq
        have hCo := ownsRow_on hCo hb_
        have hS := vbelow_step hS hb_
        clear hb_
        refine pure_ (i := 7) (N := some 12) (v := ?_) (a' := ?_) #[true, true, true, true, true, true, true, true, false, false] rfl rfl (by kernel_rfl) (fun _ _ _ h => h) (Or.inl ⟨by rfl, ?_⟩) ?_ ?_
        rotate_left
        · intro w'
          go_simp
          with_reducible rfl
        rotate_left
        · simp only [Act.put, List.setIfInBounds_toArray, List.set_cons_zero, List.set_cons_succ]
          rfl
        refine one_ (i := 8) (N := some 3) #[true, true, true, true, true, true, true, true, true, false] rfl rfl (by kernel_rfl) (by decide) (fun K hK => ?_)
        rw [if_pos (by rfl)]
        go_simp
        have hAx := World.alloc_heap_new W2 (.cells #[.slice none 0 0, .slice none 0 0] 25)
        have hAg := hS.size
        have hb_ : Below W2.heap.size W2 (W2.alloc (.cells #[.slice none 0 0, .slice none 0 0] 25)) := vbelow_alloc (Below.refl _ _) _
        refine hK.out _ _ ⟨vcell_alloc hHeld.1 _, vcell_alloc hHeld.2 _⟩ (fun hHeld => ?_)
        clear hK K
        generalize hWq : W2.alloc (.cells #[.slice none 0 0, .slice none 0 0] 25) = W3 at hAx hb_ hHeld ⊢
        generalize W2.heap.size = gx at hAx hAg ⊢
        clear hWq
        have hMr := Kd.R_below hMr hb_
        have hCo := ownsRow_on hCo hb_
        have hS := vbelow_step hS hb_
        clear hb_
        have kx0 : W3.cell? ⟨gx, 0, none⟩ = some (.slice none 0 0) := by simp [World.cell?, hAx]
        have kx1 : W3.cell? ⟨gx, 1, none⟩ = some (.slice none 0 0) := by simp [World.cell?, hAx]
        have fx0 : W3.frozen? ⟨gx, 0, none⟩ = false := by simp [World.frozen?, hAx]
        have fx1 : W3.frozen? ⟨gx, 1, none⟩ = false := by simp [World.frozen?, hAx]
        refine last_ (i := 9) (N := none) #[true, true, true, true, true, true, true, true, true, true] rfl rfl (by kernel_rfl) (by decide) (fun K hK => ?_)
        refine skip_ (w1 := ?_) (by rfl) rfl ?_ ?_
        rotate_left
        · go_simp
          rfl
        refine hK.out _ _ ?_
        clear hK K
        refine done_ (by kernel_rfl) ?_
        exact ⟨rfl, Av, cv, gm, gx, rfl, ownsRow_set (ownsRow_set hCo hAx (by decide) 0 _) (heap_put' hAx) (by decide) 1 _, R40_set (R40_set hMr hAx 0 _) (heap_put' hAx) 1 _, heap_put' (heap_put' hAx), hAg, (hS.setCell (p := ⟨gx, 0, none⟩) hAg _).setCell (p := ⟨gx, 1, none⟩) hAg _⟩
      · rw [if_pos (by rfl)]
        go_simp
        have hAx := World.alloc_heap_new W1 (.cells #[.slice none 0 0, .slice none 0 0] 25)
        have hAg := hS.size
        have hb_ : Below W1.heap.size W1 (W1.alloc (.cells #[.slice none 0 0, .slice none 0 0] 25)) := vbelow_alloc (Below.refl _ _) _
        refine hK.out _ _ ⟨vcell_alloc hHeld.1 _, vcell_alloc hHeld.2 _⟩ (fun hHeld => ?_)
        clear hK K
        generalize hWq : W1.alloc (.cells #[.slice none 0 0, .slice none 0 0] 25) = W2 at hAx hb_ hHeld ⊢
        generalize W1.heap.size = gx at hAx hAg ⊢
        clear hWq
        have hCo := ownsRow_on hCo hb_
        have hS := vbelow_step hS hb_
        clear hb_
        refine one_ (i := 6) (N := some 11) #[true, true, true, true, true, true, true, false, true, false] rfl rfl (by kernel_rfl) (by decide) (fun K hK => ?_)
        rw [if_pos (by rfl)]
        go_simp
        have hMr := hmR W2 w.heap.size W2.heap.size hS.size rfl
        have hb_ : Below W2.heap.size W2 (W2.alloc (.cells mq 40)) := vbelow_alloc (Below.refl _ _) _
        refine hK.out _ _ ⟨vcell_alloc hHeld.1 _, vcell_alloc hHeld.2 _⟩ (fun hHeld => ?_)
        clear hK K
        generalize hWq : W2.alloc (.cells mq 40) = W3 at hMr hb_ hHeld ⊢
        generalize W2.heap.size = gm at hMr ⊢
        clear hWq
        have hAx := heap_on hAx hb_
        have hCo := ownsRow_on hCo hb_
        have hS := vbelow_step hS hb_
        clear hb_
        have kx0 : W3.cell? ⟨gx, 0, none⟩ = some (.slice none 0 0) := by simp [World.cell?, hAx]
        have kx1 : W3.cell? ⟨gx, 1, none⟩ = some (.slice none 0 0) := by simp [World.cell?, hAx]
        have fx0 : W3.frozen? ⟨gx, 0, none⟩ = false := by simp [World.frozen?, hAx]
        have fx1 : W3.frozen? ⟨gx, 1, none⟩ = false := by simp [World.frozen?, hAx]
        refine pure_ (i := 7) (N := some 12) (v := ?_) (a' := ?_) #[true, true, true, true, true, true, true, true, true, false] rfl rfl (by kernel_rfl) (fun _ _ _ h => h) (Or.inl ⟨by rfl, ?_⟩) ?_ ?_
        rotate_left
        · intro w'
          go_simp
          with_reducible rfl
        rotate_left
        · simp only [Act.put, List.setIfInBounds_toArray, List.set_cons_zero, List.set_cons_succ]
          rfl
        refine last_ (i := 9) (N := none) #[true, true, true, true, true, true, true, true, true, true] rfl rfl (by kernel_rfl) (by decide) (fun K hK => ?_)
        refine skip_ (w1 := ?_) (by rfl) rfl ?_ ?_
        rotate_left
        · go_simp
          rfl
        refine hK.out _ _ ?_
        clear hK K
        refine done_ (by kernel_rfl) ?_
        exact ⟨rfl, Av, cv, gm, gx, rfl, ownsRow_set (ownsRow_set hCo hAx (by decide) 0 _) (heap_put' hAx) (by decide) 1 _, R40_set (R40_set hMr hAx 0 _) (heap_put' hAx) 1 _, heap_put' (heap_put' hAx), hAg, (hS.setCell (p := ⟨gx, 0, none⟩) hAg _).setCell (p := ⟨gx, 1, none⟩) hAg _⟩
    · rw [if_pos (by rfl)]
      go_simp
      have hMr := hmR W0 w.heap.size W0.heap.size hS.size rfl
      have hb_ : Below W0.heap.size W0 (W0.alloc (.cells mq 40)) := vbelow_alloc (Below.refl _ _) _
      refine hK.out _ _ ⟨vcell_alloc hHeld.1 _, vcell_alloc hHeld.2 _⟩ (fun hHeld => ?_)
      clear hK K
      generalize hWq : W0.alloc (.cells mq 40) = W1 at hMr hb_ hHeld ⊢
      generalize W0.heap.size = gm at hMr ⊢
      clear hWq
      have hS := vbelow_step hS hb_
      clear hb_
      refine two_ (i := 2) (j := 8) (Ni := some 7) (Nj := some 3) #[true, true, true, true, true, true, true, false, false, false] #[true, true, false, true, true, true, true, false, true, false] rfl rfl rfl rfl (by kernel_rfl) (by decide) (by decide) (fun K hK => ?_) (fun K hK => ?_)
      · rw [if_pos (by rfl)]
        go_simp
        refine (clone_cells A0 c0 l0.length cs _ hcl hone (fun ad ha j u hj => vcell hS (hcell ad ha j u hj)) hnone hb0).mono ?_
        rintro e W2 ⟨v, rfl, hCo, hb_⟩
        obtain ⟨Av, cv, rfl⟩ := ownsRow_form hCo
        have hCo := ownsRow_down hCo hS.size
        refine hK.out _ _ ⟨vcell hb_ hHeld.1, vcell hb_ hHeld.2⟩ (fun hHeld => ?_)
        clear hK K
        have hMr := Kd.R_below hMr hb_
        have hS := vbelow_step hS hb_
        clear hb_
        refine pure_ (i := 7) (N := some 12) (v := ?_) (a' := ?_) #[true, true, true, true, true, true, true, true, false, false] rfl rfl (by kernel_rfl) (fun _ _ _ h => h) (Or.inl ⟨by rfl, ?_⟩) ?_ ?_
        rotate_left
        · intro w'
          go_simp
          with_reducible rfl
        rotate_left
        · simp only [Act.put, List.setIfInBounds_toArray, List.set_cons_zero, List.set_cons_succ]
          rfl
        refine one_ (i := 8) (N := some 3) #[true, true, true, true, true, true, true, true, true, false] rfl rfl (by kernel_rfl) (by decide) (fun K hK => ?_)
        rw [if_pos (by rfl)]
        go_simp
        have hAx := World.alloc_heap_new W2 (.cells #[.slice none 0 0, .slice none 0 0] 25)
        have hAg := hS.size
        have hb_ : Below W2.heap.size W2 (W2.alloc (.cells #[.slice none 0 0, .slice none 0 0] 25)) := vbelow_alloc (Below.refl _ _) _
        refine hK.out _ _ ⟨vcell_alloc hHeld.1 _, vcell_alloc hHeld.2 _⟩ (fun hHeld => ?_)
        clear hK K
        generalize hWq : W2.alloc (.cells #[.slice none 0 0, .slice none 0 0] 25) = W3 at hAx hb_ hHeld ⊢
        generalize W2.heap.size = gx at hAx hAg ⊢
        clear hWq
        have hMr := Kd.R_below hMr hb_
        have hCo := ownsRow_on hCo hb_
        have hS := vbelow_step hS hb_
        clear hb_
        have kx0 : W3.cell? ⟨gx, 0, none⟩ = some (.slice none 0 0) := by simp [World.cell?, hAx]
        have kx1 : W3.cell? ⟨gx, 1, none⟩ = some (.slice none 0 0) := by simp [World.cell?, hAx]
        have fx0 : W3.frozen? ⟨gx, 0, none⟩ = false := by simp [World.frozen?, hAx]
        have fx1 : W3.frozen? ⟨gx, 1, none⟩ = false := by simp [World.frozen?, hAx]
        refine last_ (i := 9) (N := none) #[true, true, true, true, true, true, true, true, true, true] rfl rfl (by kernel_rfl) (by decide) (fun K hK => ?_)
        refine skip_ (w1 := ?_) (by rfl) rfl ?_ ?_
        rotate_left
        · go_simp
          rfl
        refine hK.out _ _ ?_
        clear hK K
        refine done_ (by kernel_rfl) ?_
        exact ⟨rfl, Av, cv, gm, gx, rfl, ownsRow_set (ownsRow_set hCo hAx (by decide) 0 _) (heap_put' hAx) (by decide) 1 _, R40_set (R40_set hMr hAx 0 _) (heap_put' hAx) 1 _, heap_put' (heap_put' hAx), hAg, (hS.setCell (p := ⟨gx, 0, none⟩) hAg _).setCell (p := ⟨gx, 1, none⟩) hAg _⟩
      · rw [if_pos (by rfl)]
        go_simp
        have hAx := World.alloc_heap_new W1 (.cells #[.slice none 0 0, .slice none 0 0] 25)
        have hAg := hS.size
        have hb_ : Below W1.heap.size W1 (W1.alloc (.cells #[.slice none 0 0, .slice none 0 0] 25)) := vbelow_alloc (Below.refl _ _) _
        refine hK.out _ _ ⟨vcell_alloc hHeld.1 _, vcell_alloc hHeld.2 _⟩ (fun hHeld => ?_)
        clear hK K
        generalize hWq : W1.alloc (.cells #[.slice none 0 0, .slice none 0 0] 25) = W2 at hAx hb_ hHeld ⊢
        generalize W1.heap.size = gx at hAx hAg ⊢
        clear hWq
        have hMr := Kd.R_below hMr hb_
        have hS := vbelow_step hS hb_
        clear hb_
        refine one_ (i := 2) (N := some 7) #[true, true, true, true, true, true, true, false, true, false] rfl rfl (by kernel_rfl) (by decide) (fun K hK => ?_)
        rw [if_pos (by rfl)]
        go_simp
        refine (clone_cells A0 c0 l0.length cs _ hcl hone (fun ad ha j u hj => vcell hS (hcell ad ha j u hj)) hnone hb0).mono ?_
        rintro e W3 ⟨v, rfl, hCo, hb_⟩
        obtain ⟨Av, cv, rfl⟩ := ownsRow_form hCo
        have hCo := ownsRow_down hCo hS.size
        refine hK.out _ _ ⟨vcell hb_ hHeld.1, vcell hb_ hHeld.2⟩ (fun hHeld => ?_)
        clear hK K
        have hAx := heap_on hAx hb_
        have hMr := Kd.R_below hMr hb_
        have hS := vbelow_step hS hb_
        clear hb_
        have kx0 : W3.cell? ⟨gx, 0, none⟩ = some (.slice none 0 0) := by simp [World.cell?, hAx]
        have kx1 : W3.cell? ⟨gx, 1, none⟩ = some (.slice none 0 0) := by simp [World.cell?, hAx]
        have fx0 : W3.frozen? ⟨gx, 0, none⟩ = false := by simp [World.frozen?, hAx]
        have fx1 : W3.frozen? ⟨gx, 1, none⟩ = false := by simp [World.frozen?, hAx]
        refine pure_ (i := 7) (N := some 12) (v := ?_) (a' := ?_) #[true, true, true, true, true, true, true, true, true, false] rfl rfl (by kernel_rfl) (fun _ _ _ h => h) (Or.inl ⟨by rfl, ?_⟩) ?_ ?_
        rotate_left
        · intro w'
          go_simp
          with_reducible rfl
        rotate_left
        · simp only [Act.put, List.setIfInBounds_toArray, List.set_cons_zero, List.set_cons_succ]
          rfl
        refine last_ (i := 9) (N := none) #[true, true, true, true, true, true, true, true, true, true] rfl rfl (by kernel_rfl) (by decide) (fun K hK => ?_)
        refine skip_ (w1 := ?_) (by rfl) rfl ?_ ?_
        rotate_left
        · go_simp
          rfl
        refine hK.out _ _ ?_
        clear hK K
        refine done_ (by kernel_rfl) ?_
        exact ⟨rfl, Av, cv, gm, gx, rfl, ownsRow_set (ownsRow_set hCo hAx (by decide) 0 _) (heap_put' hAx) (by decide) 1 _, R40_set (R40_set hMr hAx 0 _) (heap_put' hAx) 1 _, heap_put' (heap_put' hAx), hAg, (hS.setCell (p := ⟨gx, 0, none⟩) hAg _).setCell (p := ⟨gx, 1, none⟩) hAg _⟩
    · rw [if_pos (by rfl)]
      go_simp
      have hAx := World.alloc_heap_new W0 (.cells #[.slice none 0 0, .slice none 0 0] 25)
      have hAg := hS.size
      have hb_ : Below W0.heap.size W0 (W0.alloc (.cells #[.slice none 0 0, .slice none 0 0] 25)) := vbelow_alloc (Below.refl _ _) _
      refine hK.out _ _ ⟨vcell_alloc hHeld.1 _, vcell_alloc hHeld.2 _⟩ (fun hHeld => ?_)
      clear hK K
      generalize hWq : W0.alloc (.cells #[.slice none 0 0, .slice none 0 0] 25) = W1 at hAx hb_ hHeld ⊢
      generalize W0.heap.size = gx at hAx hAg ⊢
      clear hWq
      have hS := vbelow_step hS hb_
      clear hb_
      refine two_ (i := 2) (j := 6) (Ni := some 7) (Nj := some 11) #[true, true, true, true, true, true, false, false, true, false] #[true, true, false, true, true, true, true, false, true, false] rfl rfl rfl rfl (by kernel_rfl) (by decide) (by decide) (fun K hK => ?_) (fun K hK => ?_)
      · rw [if_pos (by rfl)]
        go_simp
        refine (clone_cells A0 c0 l0.length cs _ hcl hone (fun ad ha j u hj => vcell hS (hcell ad ha j u hj)) hnone hb0).mono ?_
        rintro e W2 ⟨v, rfl, hCo, hb_⟩
        obtain ⟨Av, cv, rfl⟩ := ownsRow_form hCo
        have hCo := ownsRow_down hCo hS.size
        refine hK.out _ _ ⟨vcell hb_ hHeld.1, vcell hb_ hHeld.2⟩ (fun hHeld => ?_)
        clear hK K
        have hAx := heap_on hAx hb_
        have hS := vbelow_step hS hb_
        clear hb_
        refine one_ (i := 6) (N := some 11) #[true, true, true, true, true, true, true, false, true, false] rfl rfl (by kernel_rfl) (by decide) (fun K hK => ?_)
        rw [if_pos (by rfl)]
        go_simp
        have hMr := hmR W2 w.heap.size W2.heap.size hS.size rfl
        have hb_ : Below W2.heap.size W2 (W2.alloc (.cells mq 40)) := vbelow_alloc (Below.refl _ _) _
        refine hK.out _ _ ⟨vcell_alloc hHeld.1 _, vcell_alloc hHeld.2 _⟩ (fun hHeld => ?_)
        clear hK K
        generalize hWq : W2.alloc (.cells mq 40) = W3 at hMr hb_ hHeld ⊢
        generalize W2.heap.size = gm at hMr ⊢
        clear hWq
        have hAx := heap_on hAx hb_
        have hCo := ownsRow_on hCo hb_
        have hS := vbelow_step hS hb_
        clear hb_
        have kx0 : W3.cell? ⟨gx, 0, none⟩ = some (.slice none 0 0) := by simp [World.cell?, hAx]
        have kx1 : W3.cell? ⟨gx, 1, none⟩ = some (.slice none 0 0) := by simp [World.cell?, hAx]
        have fx0 : W3.frozen? ⟨gx, 0, none⟩ = false := by simp [World.frozen?, hAx]
        have fx1 : W3.frozen? ⟨gx, 1, none⟩ = false := by simp [World.frozen?, hAx]
        refine pure_ (i := 7) (N := some 12) (v := ?_) (a' := ?_) #[true, true, true, true, true, true, true, true, true, false] rfl rfl (by kernel_rfl) (fun _ _ _ h => h) (Or.inl ⟨by rfl, ?_⟩) ?_ ?_
        rotate_left
        · intro w'
          go_simp
          with_reducible rfl
        rotate_left
        · simp only [Act.put, List.setIfInBounds_toArray, List.set_cons_zero, List.set_cons_succ]
          rfl
        refine last_ (i := 9) (N := none) #[true, true, true, true, true, true, true, true, true, true] rfl rfl (by kernel_rfl) (by decide) (fun K hK => ?_)
        refine skip_ (w1 := ?_) (by rfl) rfl ?_ ?_
        rotate_left
        · go_simp
          rfl
        refine hK.out _ _ ?_
        clear hK K
        refine done_ (by kernel_rfl) ?_
        exact ⟨rfl, Av, cv, gm, gx, rfl, ownsRow_set (ownsRow_set hCo hAx (by decide) 0 _) (heap_put' hAx) (by decide) 1 _, R40_set (R40_set hMr hAx 0 _) (heap_put' hAx) 1 _, heap_put' (heap_put' hAx), hAg, (hS.setCell (p := ⟨gx, 0, none⟩) hAg _).setCell (p := ⟨gx, 1, none⟩) hAg _⟩
      · rw [if_pos (by rfl)]
        go_simp
        have hMr := hmR W1 w.heap.size W1.heap.size hS.size rfl
        have hb_ : Below W1.heap.size W1 (W1.alloc (.cells mq 40)) := vbelow_alloc (Below.refl _ _) _
        refine hK.out _ _ ⟨vcell_alloc hHeld.1 _, vcell_alloc hHeld.2 _⟩ (fun hHeld => ?_)
        clear hK K
        generalize hWq : W1.alloc (.cells mq 40) = W2 at hMr hb_ hHeld ⊢
        generalize W1.heap.size = gm at hMr ⊢
        clear hWq
        have hAx := heap_on hAx hb_
        have hS := vbelow_step hS hb_
        clear hb_
        refine one_ (i := 2) (N := some 7) #[true, true, true, true, true, true, true, false, true, false] rfl rfl (by kernel_rfl) (by decide) (fun K hK => ?_)
        rw [if_pos (by rfl)]
        go_simp
        refine (clone_cells A0 c0 l0.length cs _ hcl hone (fun ad ha j u hj => vcell hS (hcell ad ha j u hj)) hnone hb0).mono ?_
        rintro e W3 ⟨v, rfl, hCo, hb_⟩
        obtain ⟨Av, cv, rfl⟩ := ownsRow_form hCo
        have hCo := ownsRow_down hCo hS.size
        refine hK.out _ _ ⟨vcell hb_ hHeld.1, vcell hb_ hHeld.2⟩ (fun hHeld => ?_)
        clear hK K
        have hAx := heap_on hAx hb_
        have hMr := Kd.R_below hMr hb_
        have hS := vbelow_step hS hb_
        clear hb_
        have kx0 : W3.cell? ⟨gx, 0, none⟩ = some (.slice none 0 0) := by simp [World.cell?, hAx]
        have kx1 : W3.cell? ⟨gx, 1, none⟩ = some (.slice none 0 0) := by simp [World.cell?, hAx]
        have fx0 : W3.frozen? ⟨gx, 0, none⟩ = false := by simp [World.frozen?, hAx]
        have fx1 : W3.frozen? ⟨gx, 1, none⟩ = false := by simp [World.frozen?, hAx]
        refine pure_ (i := 7) (N := some 12) (v := ?_) (a' := ?_) #[true, true, true, true, true, true, true, true, true, false] rfl rfl (by kernel_rfl) (fun _ _ _ h => h) (Or.inl ⟨by rfl, ?_⟩) ?_ ?_
        rotate_left
        · intro w'
          go_simp
          with_reducible rfl
        rotate_left
        · simp only [Act.put, List.setIfInBounds_toArray, List.set_cons_zero, List.set_cons_succ]
          rfl
        refine last_ (i := 9) (N := none) #[true, true, true, true, true, true, true, true, true, true] rfl rfl (by kernel_rfl) (by decide) (fun K hK => ?_)
        refine skip_ (w1 := ?_) (by rfl) rfl ?_ ?_
        rotate_left
        · go_simp
          rfl
        refine hK.out _ _ ?_
        clear hK K
        refine done_ (by kernel_rfl) ?_
        exact ⟨rfl, Av, cv, gm, gx, rfl, ownsRow_set (ownsRow_set hCo hAx (by decide) 0 _) (heap_put' hAx) (by decide) 1 _, R40_set (R40_set hMr hAx 0 _) (heap_put' hAx) 1 _, heap_put' (heap_put' hAx), hAg, (hS.setCell (p := ⟨gx, 0, none⟩) hAg _).setCell (p := ⟨gx, 1, none⟩) hAg _⟩
end Go.Proofs.Ytcifbemppbegbaa.Q

/- Layer 10: a round of own: a lane's claims cloned. -/
namespace Go.Proofs.Ytcifbemppbegbaa.Q
open Go.RowKit Go.Proofs.YtcifbemppbegbaaW.PrintWords Go.Proofs.YtcifbemppbegbaaW.PrintMore Go.Proofs.YtcifbemppbegbaaW.PrintLast
set_option linter.unusedVariables false
set_option linter.unusedSimpArgs false
set_option maxRecDepth 100000 in
set_option maxHeartbeats 4000000 in
theorem own_r6 (gx gl n cap c3 i : Nat) (A3 : Option Addr) (f3 : List Int) (ds : List Deferred) (t0 t1 t2 t5 t6 t7 t8 t9 t10 t11 t12 t13 t14 t15 t16 t17 t18 t19 t20 t21 t22 t23 t24 t25 t26 t27 t28 t29 t30 t31 t32 t33 t34 t35 t36 t37 : Value) (w : World) (ops : Array Oper) (hops : opsOf Try.f37 6 = ops) (hX : w.cell? ⟨gx, 0, none⟩ = some (.slice (some ⟨gl, 0, none⟩) n cap)) (hL : w.cell? ⟨gl, i * 6 + 3, none⟩ = some (.slice A3 f3.length c3)) (hi0 : (0 : Int) ≤ (i : Int)) (hi : (i : Int) < (n : Int)) (hC : (Kd.int .i64).C w A3 f3.length f3) (hc3 : f3.length ≤ c3) (hb3 : f3.length ≤ 1000000) (hF : ∀ W, Below w.heap.size w W → W.frozen? ⟨gl, i * 6 + 3, none⟩ = false) :
    (Code.region 6 ops true).wp Try.prog (NoPanic fun e a w' => e = .normal ∧ ∃ Av cv wc, a = { tmps := #[t0, t1, t2, .pointer (some ⟨gx, 0, none⟩), .int .i64 (i : Int), t5, t6, t7, t8, t9, t10, t11, t12, t13, t14, t15, t16, t17, t18, t19, t20, t21, t22, t23, .pointer (some ⟨gx, 0, none⟩), .slice (some ⟨gl, 0, none⟩) n cap, .int .i64 (i : Int), .pointer (some ⟨gx, 0, none⟩), .slice (some ⟨gl, 0, none⟩) n cap, .int .i64 (i : Int), .pointer (some ⟨gl, i * 6, none⟩), .pointer (some ⟨gl, i * 6 + 3, none⟩), .slice A3 f3.length c3, .slice Av f3.length cv, .pointer (some ⟨gl, i * 6, none⟩), .pointer (some ⟨gl, i * 6 + 3, none⟩), t36, t37], defers := ds } ∧ w' = wc.setCell ⟨gl, i * 6 + 3, none⟩ (.slice Av f3.length cv) ∧ (Kd.int .i64).R 3 wc w.heap.size (fun _ => True) (.slice Av f3.length cv) f3 ∧ Below w.heap.size w wc) { tmps := #[t0, t1, t2, .pointer (some ⟨gx, 0, none⟩), .int .i64 (i : Int), t5, t6, t7, t8, t9, t10, t11, t12, t13, t14, t15, t16, t17, t18, t19, t20, t21, t22, t23, t24, t25, t26, t27, t28, t29, t30, t31, t32, t33, t34, t35, t36, t37], defers := ds } w := by
    simp [opsOf, opsIn, Try.f37] at hops
    subst hops
    have hS : Below w.heap.size w w.drew := vbelow_drew (Below.refl _ _)
    have hC0 := Kd.C_drew hC
    refine start_ (n := 13) (S := fun w' => w'.cell? ⟨gx, 0, none⟩ = some (.slice (some ⟨gl, 0, none⟩) n cap) ∧ w'.cell? ⟨gl, i * 6 + 3, none⟩ = some (.slice A3 f3.length c3)) (ds := [12]) #[false, false, false, false, false, false, false, false, false, false, false, false, false] (by kernel_rfl) rfl rfl ⟨hX, hL⟩ (fun hHeld => ?_)
    refine pure_ (i := 0) (N := some 24) (v := ?_) (a' := ?_) #[true, false, false, false, false, false, false, false, false, false, false, false, false] rfl rfl (by kernel_rfl) (fun _ _ _ h => h) (Or.inl ⟨by rfl, ?_⟩) ?_ ?_
    rotate_left
    · intro w'
      go_simp
      with_reducible rfl
    rotate_left
    · simp only [Act.put, List.setIfInBounds_toArray, List.set_cons_zero, List.set_cons_succ]
      rfl
    refine pure_ (i := 2) (N := some 26) (v := ?_) (a' := ?_) #[true, false, true, false, false, false, false, false, false, false, false, false, false] rfl rfl (by kernel_rfl) (fun _ _ _ h => h) (Or.inl ⟨by rfl, ?_⟩) ?_ ?_
    rotate_left
    · intro w'
      go_simp
      with_reducible rfl
    rotate_left
    · simp only [Act.put, List.setIfInBounds_toArray, List.set_cons_zero, List.set_cons_succ]
      rfl
    refine pure_ (i := 3) (N := some 27) (v := ?_) (a' := ?_) #[true, false, true, true, false, false, false, false, false, false, false, false, false] rfl rfl (by kernel_rfl) (fun _ _ _ h => h) (Or.inl ⟨by rfl, ?_⟩) ?_ ?_
    rotate_left
    · intro w'
      go_simp
      with_reducible rfl
    rotate_left
    · simp only [Act.put, List.setIfInBounds_toArray, List.set_cons_zero, List.set_cons_succ]
      rfl
    refine pure_ (i := 5) (N := some 29) (v := ?_) (a' := ?_) #[true, false, true, true, false, true, false, false, false, false, false, false, false] rfl rfl (by kernel_rfl) (fun _ _ _ h => h) (Or.inl ⟨by rfl, ?_⟩) ?_ ?_
    rotate_left
    · intro w'
      go_simp
      with_reducible rfl
    rotate_left
    · simp only [Act.put, List.setIfInBounds_toArray, List.set_cons_zero, List.set_cons_succ]
      rfl
    refine take_ (i := 1) (N := some 25) (v := ?_) (a' := ?_) #[true, true, true, true, false, true, false, false, false, false, false, false, false] rfl rfl (by kernel_rfl) (fun _ _ _ h => h) (Or.inl ⟨by rfl, ?_⟩) hHeld ?_ ?_
    rotate_left
    · rintro w' ⟨s0, s1⟩
      go_simp
      with_reducible rfl
    rotate_left
    · simp only [Act.put, List.setIfInBounds_toArray, List.set_cons_zero, List.set_cons_succ]
      rfl
    refine take_ (i := 4) (N := some 28) (v := ?_) (a' := ?_) #[true, true, true, true, true, true, false, false, false, false, false, false, false] rfl rfl (by kernel_rfl) (fun _ _ _ h => h) (Or.inl ⟨by rfl, ?_⟩) hHeld ?_ ?_
    rotate_left
    · rintro w' ⟨s0, s1⟩
      go_simp
      with_reducible rfl
    rotate_left
    · simp only [Act.put, List.setIfInBounds_toArray, List.set_cons_zero, List.set_cons_succ]
      rfl
    refine pure_ (i := 6) (N := some 30) (v := ?_) (a' := ?_) #[true, true, true, true, true, true, true, false, false, false, false, false, false] rfl rfl (by kernel_rfl) (fun _ _ _ h => h) (Or.inl ⟨by rfl, ?_⟩) ?_ ?_
    rotate_left
    · intro w'
      go_simp
      with_reducible rfl
    rotate_left
    · simp only [Act.put, List.setIfInBounds_toArray, List.set_cons_zero, List.set_cons_succ]
      rfl
    refine pure_ (i := 7) (N := some 31) (v := ?_) (a' := ?_) #[true, true, true, true, true, true, true, true, false, false, false, false, false] rfl rfl (by kernel_rfl) (fun _ _ _ h => h) (Or.inl ⟨by rfl, ?_⟩) ?_ ?_
    rotate_left
    · intro w'
      go_simp
      with_reducible rfl
    rotate_left
    · simp only [Act.put, List.setIfInBounds_toArray, List.set_cons_zero, List.set_cons_succ]
      rfl
    refine take_ (i := 8) (N := some 32) (v := ?_) (a' := ?_) #[true, true, true, true, true, true, true, true, true, false, false, false, false] rfl rfl (by kernel_rfl) (fun _ _ _ h => h) (Or.inl ⟨by rfl, ?_⟩) hHeld ?_ ?_
    rotate_left
    · rintro w' ⟨s0, s1⟩
      go_simp
      with_reducible rfl
    rotate_left
    · simp only [Act.put, List.setIfInBounds_toArray, List.set_cons_zero, List.set_cons_succ]
      rfl
    refine one_ (i := 9) (N := some 33) #[true, true, true, true, true, true, true, true, true, true, false, false, false] rfl rfl (by kernel_rfl) (by decide) (fun K hK => ?_)
    rw [if_pos (by rfl)]
    go_simp
    refine (clone_int A3 c3 f3 _ hC0 hc3 hb3).mono ?_
    rintro e wc ⟨v, rfl, hR, hb_⟩
    obtain ⟨Av, cv, rfl⟩ := Kd.R_slice hR
    have hS1 := vbelow_step hS hb_
    have hR1 := Kd.R_lower hR hS.size
    have hF1 := hF wc hS1
    refine hK.out _ _ ⟨vcell hb_ hHeld.1, vcell hb_ hHeld.2⟩ (fun hHeld => ?_)
    clear hK K
    have hx1 := hHeld.2
    refine pure_ (i := 10) (N := some 34) (v := ?_) (a' := ?_) #[true, true, true, true, true, true, true, true, true, true, true, false, false] rfl rfl (by kernel_rfl) (fun _ _ _ h => h) (Or.inl ⟨by rfl, ?_⟩) ?_ ?_
    rotate_left
    · intro w'
      go_simp
      with_reducible rfl
    rotate_left
    · simp only [Act.put, List.setIfInBounds_toArray, List.set_cons_zero, List.set_cons_succ]
      rfl
    refine pure_ (i := 11) (N := some 35) (v := ?_) (a' := ?_) #[true, true, true, true, true, true, true, true, true, true, true, true, false] rfl rfl (by kernel_rfl) (fun _ _ _ h => h) (Or.inl ⟨by rfl, ?_⟩) ?_ ?_
    rotate_left
    · intro w'
      go_simp
      with_reducible rfl
    rotate_left
    · simp only [Act.put, List.setIfInBounds_toArray, List.set_cons_zero, List.set_cons_succ]
      rfl
    refine last_ (i := 12) (N := none) #[true, true, true, true, true, true, true, true, true, true, true, true, true] rfl rfl (by kernel_rfl) (by decide) (fun K hK => ?_)
    refine skip_ (w1 := ?_) (by rfl) rfl ?_ ?_
    rotate_left
    · go_simp
      rfl
    refine hK.out _ _ ?_
    clear hK K
    refine done_ (by kernel_rfl) ?_
    exact ⟨rfl, Av, cv, wc, rfl, rfl, hR1, hS1⟩
end Go.Proofs.Ytcifbemppbegbaa.Q
