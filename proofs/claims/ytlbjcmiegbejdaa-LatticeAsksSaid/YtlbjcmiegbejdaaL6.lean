/- Layer 2: whether flows are a lattice, in the printed form. -/
import Derived.Test.YtlbjcmiegbejdaaL5
import Derived.RangeFuncNested
namespace Go.Proofs.Ytlbjcmiegbejdaa.Q
open Go.RowKit Go.Shelf Bm
attribute [local go_sem] Oper.semAt_some
set_option linter.unusedVariables false
set_option linter.unusedSimpArgs false
open Go.Proofs.YtlbjcmiegbejdaaW.PrintWords Go.Proofs.YtlbjcmiegbejdaaW.PrintMore Go.Proofs.YtlbjcmiegbejdaaW.PrintLast
theorem R_setbox {k : IntKind} {e t B base : Nat} {w : World} {ok : Nat → Prop} {v u u' : Value} {l : List Int} (h : Kd.R (Kd.int k) e w base ok v l) (hB : Boxed w B t u) (hte : t ≠ e) : Kd.R (Kd.int k) e (w.setCell ⟨B, 0, none⟩ u') base ok v l := by
  obtain ⟨h0, cs, hown, hreps⟩ := h
  exact ⟨h0, cs, hown.kept (grownBy_setCell' w B u') (.inr (hB.not_row hte hown).symm), hreps⟩
theorem heap_setbox {w : World} {g B : Nat} {o : Obj} {u : Value} (h : w.heap[g]? = some o) (hne : g ≠ B) : (w.setCell ⟨B, 0, none⟩ u).heap[g]? = some o := (Below.heap_setCell w ⟨B, 0, none⟩ u g hne).trans h
theorem heap_set1 {w : World} {g B : Nat} {o : Obj} {u : Value} (h : w.heap[g]? = some o) (hne : g ≠ B) : (w.setCell ⟨B, 1, none⟩ u).heap[g]? = some o := (Below.heap_setCell w ⟨B, 1, none⟩ u g hne).trans h
theorem heap_alloc' {w : World} {g : Nat} {o o' : Obj} (h : w.heap[g]? = some o) : (w.alloc o').heap[g]? = some o := (Below.heap_alloc w o' g (Array.getElem?_eq_some_iff.1 h).1).trans h
theorem heap_below {w W : World} {g : Nat} {o : Obj} (h : w.heap[g]? = some o) (hb : Below w.heap.size w W) : W.heap[g]? = some o := (hb.block g (Array.getElem?_eq_some_iff.1 h).1).trans h
set_option maxRecDepth 100000 in
set_option maxHeartbeats 4000000 in
theorem lat_r5 (A : Option Addr) (c : Nat) (l : List Int) (b2 b3 b4 pP : Nat) (w2 : World) (ops : Array Oper) (hops : opsOf Try.f24 5 = ops) (hP : Boxed w2 pP 61 (.slice A l.length c)) (hC : Kd.C (Kd.int .u64) w2 A l.length l) (hc : l.length ≤ c) (hs : lattice_shape.f l = some 0) :
    (Code.region 5 ops true).wp Try.prog (NoPanic fun e a w' => e = .normal ∧ ∃ A1 c1 g p7, a = { tmps := #[.slice A l.length c, undef, .pointer (some ⟨b2, 0, none⟩), .pointer (some ⟨b3, 0, none⟩), .pointer (some ⟨b4, 0, none⟩), .int .i64 0, .pointer (some ⟨pP, 0, none⟩), .pointer (some ⟨p7, 0, none⟩), undef, undef, undef, undef, .slice A l.length c, .int .i64 0, .int .i64 0, .bool false, undef, undef, .slice A l.length c, .slice A l.length c, .func (.func 52) #[.slice A l.length c] #[], .slice A l.length c, .slice A1 l.length c1, .func (.func 52) #[.slice A1 l.length c1] #[], .slice (some ⟨g, 0, none⟩) 2 2, undef, undef, undef, undef, undef, undef, undef, undef, undef, undef, undef, undef, undef, undef, undef, undef, undef, undef, undef, undef, undef, undef], defers := [] } ∧ Kd.R (Kd.int .u64) 33 w' w2.heap.size (fun _ => True) (.slice A1 l.length c1) (turnL l) ∧ w'.heap[g]? = some (.cells #[(.func (.func 52) #[.slice A l.length c] #[]), (.func (.func 52) #[.slice A1 l.length c1] #[])] 69 (0, 0)) ∧ Boxed w' p7 73 (.slice (some ⟨g, 0, none⟩) 2 2) ∧ Below w2.heap.size w2 w') { tmps := #[.slice A l.length c, undef, .pointer (some ⟨b2, 0, none⟩), .pointer (some ⟨b3, 0, none⟩), .pointer (some ⟨b4, 0, none⟩), .int .i64 0, .pointer (some ⟨pP, 0, none⟩), undef, undef, undef, undef, undef, .slice A l.length c, .int .i64 0, .int .i64 0, .bool false, undef, undef, .slice A l.length c, undef, undef, undef, undef, undef, undef, undef, undef, undef, undef, undef, undef, undef, undef, undef, undef, undef, undef, undef, undef, undef, undef, undef, undef, undef, undef, undef, undef], defers := [] } w2 := by
    simp [opsOf, opsIn, Try.f24] at hops
    subst hops
    have hS0 : Below w2.heap.size w2 w2.drew := vbelow_drew (Below.refl _ _)
    have hC0 := Kd.C_drew hC
    refine start_ (n := 8) (S := fun w' => w'.cell? ⟨pP, 0, none⟩ = some (.slice A l.length c)) (ds := [7]) #[false, false, false, false, false, false, false, false] (by kernel_rfl) rfl rfl hP.cell (fun hHeld => ?_)
    refine take_ (i := 0) (N := some 19) (v := ?_) (a' := ?_) #[true, false, false, false, false, false, false, false] rfl rfl (by kernel_rfl) (fun _ _ _ h => h) (Or.inl ⟨by rfl, ?_⟩) hHeld ?_ ?_
    rotate_left
    · rintro w' s0
      go_simp
      with_reducible rfl
    rotate_left
    · simp only [Act.put, List.setIfInBounds_toArray, List.set_cons_zero, List.set_cons_succ]
      rfl
    refine take_ (i := 2) (N := some 21) (v := ?_) (a' := ?_) #[true, false, true, false, false, false, false, false] rfl rfl (by kernel_rfl) (fun _ _ _ h => h) (Or.inl ⟨by rfl, ?_⟩) hHeld ?_ ?_
    rotate_left
    · rintro w' s0
      go_simp
      with_reducible rfl
    rotate_left
    · simp only [Act.put, List.setIfInBounds_toArray, List.set_cons_zero, List.set_cons_succ]
      rfl
    refine pure_ (i := 1) (N := some 20) (v := ?_) (a' := ?_) #[true, true, true, false, false, false, false, false] rfl rfl (by kernel_rfl) (fun _ _ _ h => h) (Or.inl ⟨by rfl, ?_⟩) ?_ ?_
    rotate_left
    · intro w'
      go_simp
      with_reducible rfl
    rotate_left
    · simp only [Act.put, List.setIfInBounds_toArray, List.set_cons_zero, List.set_cons_succ]
      rfl
    generalize w2.drew = W0 at hS0 hC0 hHeld ⊢
    refine two_ (i := 3) (j := 6) (Ni := some 22) (Nj := some 7) #[true, true, true, true, false, false, false, false] #[true, true, true, false, false, false, true, false] rfl rfl rfl rfl (by kernel_rfl) (by decide) (by decide) (fun K hK => ?_) (fun K hK => ?_)
    · rw [if_pos (by rfl)]
      go_simp
      refine (lattice_policy_turned.calls A c l (turnL l) _ hC0 hc (turned_is hs)).mono ?_
      rintro e wT ⟨vT, rfl, HT, hbT⟩
      obtain ⟨A1, c1, eT⟩ := Kd.R_slice HT
      rw [turnL_len] at eT
      subst eT
      have hST := vbelow_step hS0 hbT
      have HT0 := Kd.R_lower HT hS0.size
      clear HT
      refine hK.out _ _ (vcell hbT hHeld) (fun hHeld => ?_)
      clear hK K
      refine pure_ (i := 4) (N := some 23) (v := ?_) (a' := ?_) #[true, true, true, true, true, false, false, false] rfl rfl (by kernel_rfl) (fun _ _ _ h => h) (Or.inl ⟨by rfl, ?_⟩) ?_ ?_
      rotate_left
      · intro w'
        go_simp
        with_reducible rfl
      rotate_left
      · simp only [Act.put, List.setIfInBounds_toArray, List.set_cons_zero, List.set_cons_succ]
        rfl
      refine two_ (i := 5) (j := 6) (Ni := some 24) (Nj := some 7) #[true, true, true, true, true, true, false, false] #[true, true, true, true, true, false, true, false] rfl rfl rfl rfl (by kernel_rfl) (by decide) (by decide) (fun K hK => ?_) (fun K hK => ?_)
      · rw [if_pos (by rfl)]
        go_simp
        have hHT := hHeld
        refine hK.out _ _ (vcell_alloc hHeld _) (fun hHeld => ?_)
        clear hK K
        refine one_ (i := 6) (N := some 7) #[true, true, true, true, true, true, true, false] rfl rfl (by kernel_rfl) (by decide) (fun K hK => ?_)
        rw [if_pos (by rfl)]
        go_simp
        have bY := Boxed.new (wT.alloc (.cells #[(.func (.func 52) #[.slice A l.length c] #[]), (.func (.func 52) #[.slice A1 l.length c1] #[])] 69)) 73 (.slice (some ⟨wT.heap.size, 0, none⟩) 2 2)
        rw [World.size_alloc] at bY
        refine hK.out _ _ (vcell_alloc (vcell_alloc (W := wT) hHT (.cells #[(.func (.func 52) #[.slice A l.length c] #[]), (.func (.func 52) #[.slice A1 l.length c1] #[])] 69)) (.cells #[.slice none 0 0] 73)) (fun hHeld => ?_)
        clear hK K
        refine last_ (i := 7) (N := none) #[true, true, true, true, true, true, true, true] rfl rfl (by kernel_rfl) (by decide) (fun K hK => ?_)
        refine skip_ (w1 := ?_) (by rfl) rfl ?_ ?_
        rotate_left
        · go_simp
          rfl
        refine hK.out _ _ ?_
        clear hK K
        refine done_ (by kernel_rfl) ?_
        exact ⟨rfl, A1, c1, wT.heap.size, (wT.heap.size + 1), rfl, (Kd.R_alloc (Kd.R_alloc HT0 _) _), heap_alloc' (World.alloc_heap_new wT (.cells #[(.func (.func 52) #[.slice A l.length c] #[]), (.func (.func 52) #[.slice A1 l.length c1] #[])] 69)), bY, vbelow_alloc (vbelow_alloc hST _) _⟩
      · rw [if_pos (by rfl)]
        go_simp
        have bX := (Boxed.new wT 73 (.slice (some ⟨wT.heap.size + 1, 0, none⟩) 2 2)).alloc (.cells #[(.func (.func 52) #[.slice A l.length c] #[]), (.func (.func 52) #[.slice A1 l.length c1] #[])] 69)
        have hHT := hHeld
        refine hK.out _ _ (vcell_alloc hHeld _) (fun hHeld => ?_)
        clear hK K
        refine one_ (i := 5) (N := some 24) #[true, true, true, true, true, true, true, false] rfl rfl (by kernel_rfl) (by decide) (fun K hK => ?_)
        have hnX := World.alloc_heap_new (wT.alloc (.cells #[.slice (some ⟨wT.heap.size + 1, 0, none⟩) 2 2] 73)) (.cells #[(.func (.func 52) #[.slice A l.length c] #[]), (.func (.func 52) #[.slice A1 l.length c1] #[])] 69)
        rw [World.size_alloc] at hnX
        rw [if_pos (by rfl)]
        go_simp
        refine hK.out _ _ (vcell_alloc (vcell_alloc (W := wT) hHT (.cells #[.slice none 0 0] 73)) (.cells #[(.func (.func 52) #[.slice A l.length c] #[]), (.func (.func 52) #[.slice A1 l.length c1] #[])] 69)) (fun hHeld => ?_)
        clear hK K
        refine last_ (i := 7) (N := none) #[true, true, true, true, true, true, true, true] rfl rfl (by kernel_rfl) (by decide) (fun K hK => ?_)
        refine skip_ (w1 := ?_) (by rfl) rfl ?_ ?_
        rotate_left
        · go_simp
          rfl
        refine hK.out _ _ ?_
        clear hK K
        refine done_ (by kernel_rfl) ?_
        exact ⟨rfl, A1, c1, (wT.heap.size + 1), wT.heap.size, rfl, (Kd.R_alloc (Kd.R_alloc HT0 _) _), hnX, bX, vbelow_alloc (vbelow_alloc hST _) _⟩
    · rw [if_pos (by rfl)]
      go_simp
      have bX0 := Boxed.new W0 73 (.slice none 0 0)
      have hS1 := vbelow_alloc hS0 (.cells #[.slice none 0 0] 73)
      have hC1 := Kd.C_alloc hC0 (.cells #[.slice none 0 0] 73)
      refine hK.out _ _ (vcell_alloc hHeld _) (fun hHeld => ?_)
      clear hK K
      refine one_ (i := 3) (N := some 22) #[true, true, true, true, false, false, true, false] rfl rfl (by kernel_rfl) (by decide) (fun K hK => ?_)
      rw [if_pos (by rfl)]
      go_simp
      refine (lattice_policy_turned.calls A c l (turnL l) _ hC1 hc (turned_is hs)).mono ?_
      rintro e wT ⟨vT, rfl, HT, hbT⟩
      obtain ⟨A1, c1, eT⟩ := Kd.R_slice HT
      rw [turnL_len] at eT
      subst eT
      have hST := vbelow_step hS1 hbT
      have HT0 := Kd.R_lower HT hS1.size
      have bX := (boxed_below bX0 hbT).alloc (.cells #[(.func (.func 52) #[.slice A l.length c] #[]), (.func (.func 52) #[.slice A1 l.length c1] #[])] 69)
      have cX := bX.cell
      have fX := bX.frozen
      have hlt := hbT.size
      rw [World.size_alloc] at hlt
      clear HT
      refine hK.out _ _ (vcell hbT hHeld) (fun hHeld => ?_)
      clear hK K
      refine pure_ (i := 4) (N := some 23) (v := ?_) (a' := ?_) #[true, true, true, true, true, false, true, false] rfl rfl (by kernel_rfl) (fun _ _ _ h => h) (Or.inl ⟨by rfl, ?_⟩) ?_ ?_
      rotate_left
      · intro w'
        go_simp
        with_reducible rfl
      rotate_left
      · simp only [Act.put, List.setIfInBounds_toArray, List.set_cons_zero, List.set_cons_succ]
        rfl
      refine one_ (i := 5) (N := some 24) #[true, true, true, true, true, true, true, false] rfl rfl (by kernel_rfl) (by decide) (fun K hK => ?_)
      rw [if_pos (by rfl)]
      go_simp
      refine hK.out _ _ (vcell_alloc hHeld _) (fun hHeld => ?_)
      clear hK K
      refine last_ (i := 7) (N := none) #[true, true, true, true, true, true, true, true] rfl rfl (by kernel_rfl) (by decide) (fun K hK => ?_)
      refine skip_ (w1 := ?_) (by rfl) rfl ?_ ?_
      rotate_left
      · go_simp
        rfl
      refine hK.out _ _ ?_
      clear hK K
      refine done_ (by kernel_rfl) ?_
      exact ⟨rfl, A1, c1, wT.heap.size, W0.heap.size, rfl, R_setbox (Kd.R_alloc HT0 _) bX (by decide), heap_setbox (World.alloc_heap_new wT (.cells #[(.func (.func 52) #[.slice A l.length c] #[]), (.func (.func 52) #[.slice A1 l.length c1] #[])] 69)) (by omega), bX.set _, (vbelow_alloc hST _).setCell (p := ⟨W0.heap.size, 0, none⟩) (by have := hS0.size; (try have := hbT.size); (try simp only [World.size_alloc] at *); (try simp only); omega) _⟩
/-- The stop: what the results hold. -/
structure Stop (b2 b3 b4 : Nat) (x y : Int) (ok : Bool) (W : World) : Prop where
  flow : W.heap[b2]? = some (.cells #[.int .i64 x, .int .i64 y] 32 (0, 0))
  flag : W.heap[b3]? = some (.cells #[.bool ok] 4 (0, 0))
  err : W.heap[b4]? = some (.cells #[.int .i64 0] 26 (0, 0))
theorem heap_put {w : World} {b j : Nat} {cs : Array Value} {t : TypeId} {u : Value} (h : w.heap[b]? = some (.cells cs t (0, 0))) : (w.setCell ⟨b, j, none⟩ u).heap[b]? = some (.cells (cs.setIfInBounds j u) t (0, 0)) := by
  obtain ⟨hlt, hk⟩ := Array.getElem?_eq_some_iff.1 h
  show (w.heap.modify b _)[b]? = _
  rw [Array.getElem?_eq_getElem (by rw [Array.size_modify]; exact hlt), Array.getElem_modify_self, hk]
  rfl
theorem Stop.put {b2 b3 b4 n0 : Nat} {x y : Int} {ok : Bool} {w0 w2 : World} (hZ : Stop b2 b3 b4 0 0 false w2) (h23 : b2 ≠ b3) (h24 : b2 ≠ b4) (h34 : b3 ≠ b4) (hn2 : n0 ≤ b2) (hn3 : n0 ≤ b3) (hn4 : n0 ≤ b4) (hK : KeepsOthers w0 w2) (hB : Below n0 w0 w2) :
    KeepsOthers w0 ((((w2.setCell ⟨b2, 0, none⟩ (.int .i64 x)).setCell ⟨b2, 1, none⟩ (.int .i64 y)).setCell ⟨b3, 0, none⟩ (.bool ok)).setCell ⟨b4, 0, none⟩ (.int .i64 0)) ∧ Below n0 w0 ((((w2.setCell ⟨b2, 0, none⟩ (.int .i64 x)).setCell ⟨b2, 1, none⟩ (.int .i64 y)).setCell ⟨b3, 0, none⟩ (.bool ok)).setCell ⟨b4, 0, none⟩ (.int .i64 0)) ∧ Stop b2 b3 b4 x y ok ((((w2.setCell ⟨b2, 0, none⟩ (.int .i64 x)).setCell ⟨b2, 1, none⟩ (.int .i64 y)).setCell ⟨b3, 0, none⟩ (.bool ok)).setCell ⟨b4, 0, none⟩ (.int .i64 0)) :=
  ⟨(((hK.trans (KeepsOthers.setCell _ _ _)).trans (KeepsOthers.setCell _ _ _)).trans (KeepsOthers.setCell _ _ _)).trans (KeepsOthers.setCell _ _ _),
   (((hB.setCell (p := ⟨b2, 0, none⟩) hn2 _).setCell (p := ⟨b2, 1, none⟩) hn2 _).setCell (p := ⟨b3, 0, none⟩) hn3 _).setCell (p := ⟨b4, 0, none⟩) hn4 _,
   heap_setbox (heap_setbox (heap_put (heap_put hZ.flow)) h23) h24,
   heap_setbox (heap_put (heap_set1 (heap_setbox hZ.flag h23.symm) h23.symm)) h34,
   heap_put (heap_setbox (heap_set1 (heap_setbox hZ.err h24.symm) h24.symm) h34.symm)⟩
theorem Stop.below {b2 b3 b4 : Nat} {x y : Int} {ok : Bool} {w W : World} (h : Stop b2 b3 b4 x y ok w) (hb : Below w.heap.size w W) : Stop b2 b3 b4 x y ok W := ⟨heap_below h.flow hb, heap_below h.flag hb, heap_below h.err hb⟩
def badB (l : List Int) (x y : Nat) : Bool := decide (jnF l x y = 0) || decide (jnF (turnL l) x y = 0)
set_option maxRecDepth 100000 in
set_option maxHeartbeats 4000000 in
theorem lat_round (l_ : Nat) (A A1 : Option Addr) (c c1 : Nat) (l : List Int) (x y : Nat) (n0 b2 b3 b4 pP p7 g pS pS2 Bx : Nat) (W : World) (c_ : Code) (hc_ : (Try.f24.body.bind rfBody).bind rfBody = some c_)
    (hZ : Stop b2 b3 b4 0 0 false W) (hn2 : n0 ≤ b2) (hn3 : n0 ≤ b3) (hn4 : n0 ≤ b4) (h23 : b2 ≠ b3) (h24 : b2 ≠ b4) (h34 : b3 ≠ b4) (hX : Boxed W Bx 3 (.int .i64 (x : Int))) (hp7 : Boxed W p7 73 (.slice (some ⟨g, 0, none⟩) 2 2)) (hg : W.heap[g]? = some (.cells #[.func (.func 52) #[.slice A l.length c] #[], .func (.func 52) #[.slice A1 l.length c1] #[]] 69 (0, 0)))
    (hL : Kd.C (Kd.int .u64) W A l.length l) (hc : l.length ≤ c) (hT : Kd.C (Kd.int .u64) W A1 l.length (turnL l)) (hc1 : l.length ≤ c1) (hok : okUb l = true) (h16 : l.length ≤ 16) (hx : x < l.length) (hy : y < l.length) (hn0 : n0 ≤ W.heap.size) :
    c_.wpIn (Fence.wide.inRound l_) 5 Try.prog (fun e a w' => (e = .normal ∧ badB l x y = false ∧ Below W.heap.size W w') ∨ (e = .ret ∧ badB l x y = true ∧ KeepsOthers W w' ∧ Below n0 W w' ∧ Stop b2 b3 b4 x y false w')) { tmps := #[.slice A l.length c, undef, .pointer (some ⟨b2, 0, none⟩), .pointer (some ⟨b3, 0, none⟩), .pointer (some ⟨b4, 0, none⟩), .int .i64 0, .pointer (some ⟨pP, 0, none⟩), .pointer (some ⟨p7, 0, none⟩), .pointer (some ⟨Bx, 0, none⟩), .int .i64 (y : Int), undef, undef, .slice A l.length c, .int .i64 0, .int .i64 0, .bool false, undef, undef, .slice A l.length c, .slice A l.length c, .func (.func 52) #[.slice A l.length c] #[], .slice A l.length c, .slice A1 l.length c1, .func (.func 52) #[.slice A1 l.length c1] #[], .slice (some ⟨g, 0, none⟩) 2 2, .slice A l.length c, .func (.func 70) #[] #[.pointer (some ⟨pS, 0, none⟩)], .int .i64 (x : Int), .slice A l.length c, .func (.func 70) #[] #[.pointer (some ⟨pS2, 0, none⟩)], .int .i64 (y : Int), undef, undef, undef, undef, undef, undef, undef, undef, undef, undef, undef, undef, undef, undef, undef, undef], defers := [] } W := by
  simp [rfBody, Try.f24] at hc_
  subst hc_
  have HJ := fun W' hb => CallsIn.inRound l_ ((callsIn_wide (n := 4)).2 (joins_call A c l x y W' (Kd.C_below hL hb) hc hok h16 (by omega) (by omega) (by omega) (by omega)))
  have hTl := turnL_len l
  have HM := fun W' hb => CallsIn.inRound l_ ((callsIn_wide (n := 4)).2 (joins_call A1 c1 (turnL l) x y W' (by rw [hTl]; exact Kd.C_below hT hb) (by omega) (turnL_ok (by omega)) (by omega) (by omega) (by omega) (by omega) (by omega)))
  rw [hTl] at HM
  have hBad : badB l x y = (decide (jnF l x y = 0) || decide (jnF (turnL l) x y = 0)) := rfl
  generalize hj : jnF l x y = j at HJ hBad
  generalize hm : jnF (turnL l) x y = m at HM hBad
  generalize hb_ : badB l x y = b at hBad ⊢
  have cX := hX.cell
  have c7 := hp7.cell
  have cg0 : W.cell? ⟨g, 0, none⟩ = some (.func (.func 52) #[.slice A l.length c] #[]) := by simp [World.cell?, hg]
  have cg1 : W.cell? ⟨g, 1, none⟩ = some (.func (.func 52) #[.slice A1 l.length c1] #[]) := by simp [World.cell?, hg]
  have f52 : Fence.wide.fn 52 := trivial
  clear hj hm hb_ hTl hL hT hok h16 hx hy
  have hKO := KeepsOthers.refl W
  have hBW := Below.refl W.heap.size W
  gi_wp2
  gi_loopw [33] (fun v33 w1 => (v33 = .int .i64 0 ∨ (v33 = .int .i64 1 ∧ j ≠ 0) ∨ (v33 = .int .i64 2 ∧ j ≠ 0 ∧ m ≠ 0)) ∧ Below W.heap.size W w1)
    (fun v33 _ => match v33 with | .int _ z => 2 - z.toNat | _ => 0)
  case atStart => exact ⟨.inl rfl, hBW⟩
  case round =>
    obtain ⟨rfl | ⟨rfl, hj0⟩ | ⟨rfl, hj0, hm0⟩, hB⟩ := hrel
    · have cX1 := vcell hB cX
      have cg01 := vcell hB cg0
      gi_wp2
      refine CallsIn.mono (HJ wr hB) ?_
      rintro e w2 ⟨rfl, hb2⟩
      have hB2 := vbelow_step hB hb2
      have hn3_ := h23.symm
      have hn4_ := h24.symm
      have hn5_ := h34.symm
      have hZ2 := hZ.below hB2
      have cX2 := vcell hB2 cX
      have k20 : w2.cell? ⟨b2, 0, none⟩ = some (.int .i64 0) := by simp [World.cell?, hZ2.flow]
      have k21 : w2.cell? ⟨b2, 1, none⟩ = some (.int .i64 0) := by simp [World.cell?, hZ2.flow]
      have k30 : w2.cell? ⟨b3, 0, none⟩ = some (.bool false) := by simp [World.cell?, hZ2.flag]
      have k40 : w2.cell? ⟨b4, 0, none⟩ = some (.int .i64 0) := by simp [World.cell?, hZ2.err]
      have f20 : w2.frozen? ⟨b2, 0, none⟩ = false := by simp [World.frozen?, hZ2.flow]
      have f21 : w2.frozen? ⟨b2, 1, none⟩ = false := by simp [World.frozen?, hZ2.flow]
      have f30 : w2.frozen? ⟨b3, 0, none⟩ = false := by simp [World.frozen?, hZ2.flag]
      have f40 : w2.frozen? ⟨b4, 0, none⟩ = false := by simp [World.frozen?, hZ2.err]
      by_cases hj0 : j = 0
      · have hjb : (j == 0) = true := beq_iff_eq.2 hj0
        have hBt : b = true := by rw [hBad]; simp [hj0]
        have hPut := Stop.put (x := x) (y := y) (ok := false) hZ2 h23 h24 h34 hn2 hn3 hn4 (keeps_below hB2) (hB2.mono hn0)
        clear hBad hj0
        gi_wp2
      · have hjb : (j == 0) = false := beq_eq_false_iff_ne.2 hj0
        gi_wp2
        go_roundw
        case rel => exact ⟨.inr (.inl ⟨rfl, hj0⟩), hB2⟩
        case measure => simp
    · have cX1 := vcell hB cX
      have cg11 := vcell hB cg1
      gi_wp2
      refine CallsIn.mono (HM wr hB) ?_
      rintro e w2 ⟨rfl, hb2⟩
      have hB2 := vbelow_step hB hb2
      have hn3_ := h23.symm
      have hn4_ := h24.symm
      have hn5_ := h34.symm
      have hZ2 := hZ.below hB2
      have cX2 := vcell hB2 cX
      have k20 : w2.cell? ⟨b2, 0, none⟩ = some (.int .i64 0) := by simp [World.cell?, hZ2.flow]
      have k21 : w2.cell? ⟨b2, 1, none⟩ = some (.int .i64 0) := by simp [World.cell?, hZ2.flow]
      have k30 : w2.cell? ⟨b3, 0, none⟩ = some (.bool false) := by simp [World.cell?, hZ2.flag]
      have k40 : w2.cell? ⟨b4, 0, none⟩ = some (.int .i64 0) := by simp [World.cell?, hZ2.err]
      have f20 : w2.frozen? ⟨b2, 0, none⟩ = false := by simp [World.frozen?, hZ2.flow]
      have f21 : w2.frozen? ⟨b2, 1, none⟩ = false := by simp [World.frozen?, hZ2.flow]
      have f30 : w2.frozen? ⟨b3, 0, none⟩ = false := by simp [World.frozen?, hZ2.flag]
      have f40 : w2.frozen? ⟨b4, 0, none⟩ = false := by simp [World.frozen?, hZ2.err]
      by_cases hm0 : m = 0
      · have hjb : (m == 0) = true := beq_iff_eq.2 hm0
        have hBt : b = true := by rw [hBad]; simp [hm0]
        have hPut := Stop.put (x := x) (y := y) (ok := false) hZ2 h23 h24 h34 hn2 hn3 hn4 (keeps_below hB2) (hB2.mono hn0)
        clear hBad hm0
        gi_wp2
      · have hjb : (m == 0) = false := beq_eq_false_iff_ne.2 hm0
        gi_wp2
        go_roundw
        case rel => exact ⟨.inr (.inr ⟨rfl, hj0, hm0⟩), hB2⟩
        case measure => simp
    · gi_wp2
end Go.Proofs.Ytlbjcmiegbejdaa.Q
