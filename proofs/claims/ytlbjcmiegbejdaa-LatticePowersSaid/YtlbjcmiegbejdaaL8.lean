/- Layer 2: whether flows are a lattice, in the printed form. -/
import Derived.Test.YtlbjcmiegbejdaaL5
import Derived.RangeFuncNested
namespace Go.Proofs.Ytlbjcmiegbejdaa.Q
open Go.RowKit Go.Shelf Bm
attribute [local go_sem] Oper.semAt_some
set_option linter.unusedVariables false
set_option linter.unusedSimpArgs false
open Go.Proofs.YtlbjcmiegbejdaaW.PrintWords Go.Proofs.YtlbjcmiegbejdaaW.PrintMore Go.Proofs.YtlbjcmiegbejdaaW.PrintLast
theorem R_setbox {k : IntKind} {e t B base : Nat} {w : World} {ok : Nat → Prop} {v u u' : Value} {l : List Int} (h : Kd.R (Kd.int k) e w base ok v l) (hB : Boxed w B t u) (hte : t ≠ e) : Kd.R (Kd.int k) e (w.setCell ⟨B, 0, none⟩ u') base ok v l := by
  obtain ⟨h0, cs, hown, hreps⟩ := h
  exact ⟨h0, cs, hown.kept (grownBy_setCell' w B u') (.inr (hB.not_row hte hown).symm), hreps⟩
theorem heap_setbox {w : World} {g B : Nat} {o : Obj} {u : Value} (h : w.heap[g]? = some o) (hne : g ≠ B) : (w.setCell ⟨B, 0, none⟩ u).heap[g]? = some o := (Below.heap_setCell w ⟨B, 0, none⟩ u g hne).trans h
theorem heap_set1 {w : World} {g B : Nat} {o : Obj} {u : Value} (h : w.heap[g]? = some o) (hne : g ≠ B) : (w.setCell ⟨B, 1, none⟩ u).heap[g]? = some o := (Below.heap_setCell w ⟨B, 1, none⟩ u g hne).trans h
theorem heap_alloc' {w : World} {g : Nat} {o o' : Obj} (h : w.heap[g]? = some o) : (w.alloc o').heap[g]? = some o := (Below.heap_alloc w o' g (Array.getElem?_eq_some_iff.1 h).1).trans h
theorem heap_below {w W : World} {g : Nat} {o : Obj} (h : w.heap[g]? = some o) (hb : Below w.heap.size w W) : W.heap[g]? = some o := (hb.block g (Array.getElem?_eq_some_iff.1 h).1).trans h
set_option maxRecDepth 100000 in
set_option maxHeartbeats 4000000 in
theorem lat_r5 (A : Option Addr) (c : Nat) (l : List Int) (b2 b3 b4 pP : Nat) (w2 : World) (ops : Array Oper) (hops : opsOf Try.f24 5 = ops) (hP : Boxed w2 pP 61 (.slice A l.length c)) (hC : Kd.C (Kd.int .u64) w2 A l.length l) (hc : l.length ≤ c) (hs : lattice_shape.f l = some 0) :
    (Code.region 5 ops true).wp Try.prog (NoPanic fun e a w' => e = .normal ∧ ∃ A1 c1 g p7, a = { tmps := #[.slice A l.length c, undef, .pointer (some ⟨b2, 0, none⟩), .pointer (some ⟨b3, 0, none⟩), .pointer (some ⟨b4, 0, none⟩), .int .i64 0, .pointer (some ⟨pP, 0, none⟩), .pointer (some ⟨p7, 0, none⟩), undef, undef, undef, undef, .slice A l.length c, .int .i64 0, .int .i64 0, .bool false, undef, undef, .slice A l.length c, .slice A l.length c, .func (.func 52) #[.slice A l.length c] #[], .slice A l.length c, .slice A1 l.length c1, .func (.func 52) #[.slice A1 l.length c1] #[], .slice (some ⟨g, 0, none⟩) 2 2, undef, undef, undef, undef, undef, undef, undef, undef, undef, undef, undef, undef, undef, undef, undef, undef, undef, undef, undef, undef, undef, undef], defers := [] } ∧ Kd.R (Kd.int .u64) 33 w' w2.heap.size (fun _ => True) (.slice A1 l.length c1) (turnL l) ∧ w'.heap[g]? = some (.cells #[(.func (.func 52) #[.slice A l.length c] #[]), (.func (.func 52) #[.slice A1 l.length c1] #[])] 69 (0, 0)) ∧ Boxed w' p7 73 (.slice (some ⟨g, 0, none⟩) 2 2) ∧ Below w2.heap.size w2 w') { tmps := #[.slice A l.length c, undef, .pointer (some ⟨b2, 0, none⟩), .pointer (some ⟨b3, 0, none⟩), .pointer (some ⟨b4, 0, none⟩), .int .i64 0, .pointer (some ⟨pP, 0, none⟩), undef, undef, undef, undef, undef, .slice A l.length c, .int .i64 0, .int .i64 0, .bool false, undef, undef, .slice A l.length c, undef, undef, undef, undef, undef, undef, undef, undef, undef, undef, undef, undef, undef, undef, undef, undef, undef, undef, undef, undef, undef, undef, undef, undef, undef, undef, undef, undef], defers := [] } w2 := by
    simp [opsOf, opsIn, Try.f24] at hops
    subst hops
    have hS0 : Below w2.heap.size w2 w2.drew := vbelow_drew (Below.refl _ _)
    have hC0 := Kd.C_drew hC
    refine start_ (n := 8) (S := fun w' => w'.cell? ⟨pP, 0, none⟩ = some (.slice A l.length c)) (ds := [7]) #[false, false, false, false, false, false, false, false] (by kernel_rfl) rfl rfl hP.cell (fun hHeld => ?_)
    refine take_ (i := 0) (N := some 19) (v := ?_) (a' := ?_) #[true, false, false, false, false, false, false, false] rfl rfl (by kernel_rfl) (fun _ _ _ h => h) (Or.inl ⟨by rfl, ?_⟩) hHeld ?_ ?_
    rotate_left
    · rintro w' s0
      go_simp
      with_reducible rfl
    rotate_left
    · simp only [Act.put, List.setIfInBounds_toArray, List.set_cons_zero, List.set_cons_succ]
      rfl
    refine take_ (i := 2) (N := some 21) (v := ?_) (a' := ?_) #[true, false, true, false, false, false, false, false] rfl rfl (by kernel_rfl) (fun _ _ _ h => h) (Or.inl ⟨by rfl, ?_⟩) hHeld ?_ ?_
    rotate_left
    · rintro w' s0
      go_simp
      with_reducible rfl
    rotate_left
    · simp only [Act.put, List.setIfInBounds_toArray, List.set_cons_zero, List.set_cons_succ]
      rfl
    refine pure_ (i := 1) (N := some 20) (v := ?_) (a' := ?_) #[true, true, true, false, false, false, false, false] rfl rfl (by kernel_rfl) (fun _ _ _ h => h) (Or.inl ⟨by rfl, ?_⟩) ?_ ?_
    rotate_left
    · intro w'
      go_simp
      with_reducible rfl
    rotate_left
    · simp only [Act.put, List.setIfInBounds_toArray, List.set_cons_zero, List.set_cons_succ]
      rfl
    generalize w2.drew = W0 at hS0 hC0 hHeld ⊢
    refine two_ (i := 3) (j := 6) (Ni := some 22) (Nj := some 7) #[true, true, true, true, false, false, false, false] #[true, true, true, false, false, false, true, false] rfl rfl rfl rfl (by kernel_rfl) (by decide) (by decide) (fun K hK => ?_) (fun K hK => ?_)
    · rw [if_pos (by rfl)]
      go_simp
      refine (lattice_policy_turned.calls A c l (turnL l) _ hC0 hc (turned_is hs)).mono ?_
      rintro e wT ⟨vT, rfl, HT, hbT⟩
      obtain ⟨A1, c1, eT⟩ := Kd.R_slice HT
      rw [turnL_len] at eT
      subst eT
      have hST := vbelow_step hS0 hbT
      have HT0 := Kd.R_lower HT hS0.size
      clear HT
      refine hK.out _ _ (vcell hbT hHeld) (fun hHeld => ?_)
      clear hK K
      refine pure_ (i := 4) (N := some 23) (v := ?_) (a' := ?_) #[true, true, true, true, true, false, false, false] rfl rfl (by kernel_rfl) (fun _ _ _ h => h) (Or.inl ⟨by rfl, ?_⟩) ?_ ?_
      rotate_left
      · intro w'
        go_simp
        with_reducible rfl
      rotate_left
      · simp only [Act.put, List.setIfInBounds_toArray, List.set_cons_zero, List.set_cons_succ]
        rfl
      refine two_ (i := 5) (j := 6) (Ni := some 24) (Nj := some 7) #[true, true, true, true, true, true, false, false] #[true, true, true, true, true, false, true, false] rfl rfl rfl rfl (by kernel_rfl) (by decide) (by decide) (fun K hK => ?_) (fun K hK => ?_)
      · rw [if_pos (by rfl)]
        go_simp
        have hHT := hHeld
        refine hK.out _ _ (vcell_alloc hHeld _) (fun hHeld => ?_)
        clear hK K
        refine one_ (i := 6) (N := some 7) #[true, true, true, true, true, true, true, false] rfl rfl (by kernel_rfl) (by decide) (fun K hK => ?_)
        rw [if_pos (by rfl)]
        go_simp
        have bY := Boxed.new (wT.alloc (.cells #[(.func (.func 52) #[.slice A l.length c] #[]), (.func (.func 52) #[.slice A1 l.length c1] #[])] 69)) 73 (.slice (some ⟨wT.heap.size, 0, none⟩) 2 2)
        rw [World.size_alloc] at bY
        refine hK.out _ _ (vcell_alloc (vcell_alloc (W := wT) hHT (.cells #[(.func (.func 52) #[.slice A l.length c] #[]), (.func (.func 52) #[.slice A1 l.length c1] #[])] 69)) (.cells #[.slice none 0 0] 73)) (fun hHeld => ?_)
        clear hK K
        refine last_ (i := 7) (N := none) #[true, true, true, true, true, true, true, true] rfl rfl (by kernel_rfl) (by decide) (fun K hK => ?_)
        refine skip_ (w1 := ?_) (by rfl) rfl ?_ ?_
        rotate_left
        · go_simp
          rfl
        refine hK.out _ _ ?_
        clear hK K
        refine done_ (by kernel_rfl) ?_
        exact ⟨rfl, A1, c1, wT.heap.size, (wT.heap.size + 1), rfl, (Kd.R_alloc (Kd.R_alloc HT0 _) _), heap_alloc' (World.alloc_heap_new wT (.cells #[(.func (.func 52) #[.slice A l.length c] #[]), (.func (.func 52) #[.slice A1 l.length c1] #[])] 69)), bY, vbelow_alloc (vbelow_alloc hST _) _⟩
      · rw [if_pos (by rfl)]
        go_simp
        have bX := (Boxed.new wT 73 (.slice (some ⟨wT.heap.size + 1, 0, none⟩) 2 2)).alloc (.cells #[(.func (.func 52) #[.slice A l.length c] #[]), (.func (.func 52) #[.slice A1 l.length c1] #[])] 69)
        have hHT := hHeld
        refine hK.out _ _ (vcell_alloc hHeld _) (fun hHeld => ?_)
        clear hK K
        refine one_ (i := 5) (N := some 24) #[true, true, true, true, true, true, true, false] rfl rfl (by kernel_rfl) (by decide) (fun K hK => ?_)
        have hnX := World.alloc_heap_new (wT.alloc (.cells #[.slice (some ⟨wT.heap.size + 1, 0, none⟩) 2 2] 73)) (.cells #[(.func (.func 52) #[.slice A l.length c] #[]), (.func (.func 52) #[.slice A1 l.length c1] #[])] 69)
        rw [World.size_alloc] at hnX
        rw [if_pos (by rfl)]
        go_simp
        refine hK.out _ _ (vcell_alloc (vcell_alloc (W := wT) hHT (.cells #[.slice none 0 0] 73)) (.cells #[(.func (.func 52) #[.slice A l.length c] #[]), (.func (.func 52) #[.slice A1 l.length c1] #[])] 69)) (fun hHeld => ?_)
        clear hK K
        refine last_ (i := 7) (N := none) #[true, true, true, true, true, true, true, true] rfl rfl (by kernel_rfl) (by decide) (fun K hK => ?_)
        refine skip_ (w1 := ?_) (by rfl) rfl ?_ ?_
        rotate_left
        · go_simp
          rfl
        refine hK.out _ _ ?_
        clear hK K
        refine done_ (by kernel_rfl) ?_
        exact ⟨rfl, A1, c1, (wT.heap.size + 1), wT.heap.size, rfl, (Kd.R_alloc (Kd.R_alloc HT0 _) _), hnX, bX, vbelow_alloc (vbelow_alloc hST _) _⟩
    · rw [if_pos (by rfl)]
      go_simp
      have bX0 := Boxed.new W0 73 (.slice none 0 0)
      have hS1 := vbelow_alloc hS0 (.cells #[.slice none 0 0] 73)
      have hC1 := Kd.C_alloc hC0 (.cells #[.slice none 0 0] 73)
      refine hK.out _ _ (vcell_alloc hHeld _) (fun hHeld => ?_)
      clear hK K
      refine one_ (i := 3) (N := some 22) #[true, true, true, true, false, false, true, false] rfl rfl (by kernel_rfl) (by decide) (fun K hK => ?_)
      rw [if_pos (by rfl)]
      go_simp
      refine (lattice_policy_turned.calls A c l (turnL l) _ hC1 hc (turned_is hs)).mono ?_
      rintro e wT ⟨vT, rfl, HT, hbT⟩
      obtain ⟨A1, c1, eT⟩ := Kd.R_slice HT
      rw [turnL_len] at eT
      subst eT
      have hST := vbelow_step hS1 hbT
      have HT0 := Kd.R_lower HT hS1.size
      have bX := (boxed_below bX0 hbT).alloc (.cells #[(.func (.func 52) #[.slice A l.length c] #[]), (.func (.func 52) #[.slice A1 l.length c1] #[])] 69)
      have cX := bX.cell
      have fX := bX.frozen
      have hlt := hbT.size
      rw [World.size_alloc] at hlt
      clear HT
      refine hK.out _ _ (vcell hbT hHeld) (fun hHeld => ?_)
      clear hK K
      refine pure_ (i := 4) (N := some 23) (v := ?_) (a' := ?_) #[true, true, true, true, true, false, true, false] rfl rfl (by kernel_rfl) (fun _ _ _ h => h) (Or.inl ⟨by rfl, ?_⟩) ?_ ?_
      rotate_left
      · intro w'
        go_simp
        with_reducible rfl
      rotate_left
      · simp only [Act.put, List.setIfInBounds_toArray, List.set_cons_zero, List.set_cons_succ]
        rfl
      refine one_ (i := 5) (N := some 24) #[true, true, true, true, true, true, true, false] rfl rfl (by kernel_rfl) (by decide) (fun K hK => ?_)
      rw [if_pos (by rfl)]
      go_simp
      refine hK.out _ _ (vcell_alloc hHeld _) (fun hHeld => ?_)
      clear hK K
      refine last_ (i := 7) (N := none) #[true, true, true, true, true, true, true, true] rfl rfl (by kernel_rfl) (by decide) (fun K hK => ?_)
      refine skip_ (w1 := ?_) (by rfl) rfl ?_ ?_
      rotate_left
      · go_simp
        rfl
      refine hK.out _ _ ?_
      clear hK K
      refine done_ (by kernel_rfl) ?_
      exact ⟨rfl, A1, c1, wT.heap.size, W0.heap.size, rfl, R_setbox (Kd.R_alloc HT0 _) bX (by decide), heap_setbox (World.alloc_heap_new wT (.cells #[(.func (.func 52) #[.slice A l.length c] #[]), (.func (.func 52) #[.slice A1 l.length c1] #[])] 69)) (by omega), bX.set _, (vbelow_alloc hST _).setCell (p := ⟨W0.heap.size, 0, none⟩) (by have := hS0.size; (try have := hbT.size); (try simp only [World.size_alloc] at *); (try simp only); omega) _⟩
/-- The stop: what the results hold. -/
structure Stop (b2 b3 b4 : Nat) (x y : Int) (ok : Bool) (W : World) : Prop where
  flow : W.heap[b2]? = some (.cells #[.int .i64 x, .int .i64 y] 32 (0, 0))
  flag : W.heap[b3]? = some (.cells #[.bool ok] 4 (0, 0))
  err : W.heap[b4]? = some (.cells #[.int .i64 0] 26 (0, 0))
theorem heap_put {w : World} {b j : Nat} {cs : Array Value} {t : TypeId} {u : Value} (h : w.heap[b]? = some (.cells cs t (0, 0))) : (w.setCell ⟨b, j, none⟩ u).heap[b]? = some (.cells (cs.setIfInBounds j u) t (0, 0)) := by
  obtain ⟨hlt, hk⟩ := Array.getElem?_eq_some_iff.1 h
  show (w.heap.modify b _)[b]? = _
  rw [Array.getElem?_eq_getElem (by rw [Array.size_modify]; exact hlt), Array.getElem_modify_self, hk]
  rfl
theorem Stop.put {b2 b3 b4 n0 : Nat} {x y : Int} {ok : Bool} {w0 w2 : World} (hZ : Stop b2 b3 b4 0 0 false w2) (h23 : b2 ≠ b3) (h24 : b2 ≠ b4) (h34 : b3 ≠ b4) (hn2 : n0 ≤ b2) (hn3 : n0 ≤ b3) (hn4 : n0 ≤ b4) (hK : KeepsOthers w0 w2) (hB : Below n0 w0 w2) :
    KeepsOthers w0 ((((w2.setCell ⟨b2, 0, none⟩ (.int .i64 x)).setCell ⟨b2, 1, none⟩ (.int .i64 y)).setCell ⟨b3, 0, none⟩ (.bool ok)).setCell ⟨b4, 0, none⟩ (.int .i64 0)) ∧ Below n0 w0 ((((w2.setCell ⟨b2, 0, none⟩ (.int .i64 x)).setCell ⟨b2, 1, none⟩ (.int .i64 y)).setCell ⟨b3, 0, none⟩ (.bool ok)).setCell ⟨b4, 0, none⟩ (.int .i64 0)) ∧ Stop b2 b3 b4 x y ok ((((w2.setCell ⟨b2, 0, none⟩ (.int .i64 x)).setCell ⟨b2, 1, none⟩ (.int .i64 y)).setCell ⟨b3, 0, none⟩ (.bool ok)).setCell ⟨b4, 0, none⟩ (.int .i64 0)) :=
  ⟨(((hK.trans (KeepsOthers.setCell _ _ _)).trans (KeepsOthers.setCell _ _ _)).trans (KeepsOthers.setCell _ _ _)).trans (KeepsOthers.setCell _ _ _),
   (((hB.setCell (p := ⟨b2, 0, none⟩) hn2 _).setCell (p := ⟨b2, 1, none⟩) hn2 _).setCell (p := ⟨b3, 0, none⟩) hn3 _).setCell (p := ⟨b4, 0, none⟩) hn4 _,
   heap_setbox (heap_setbox (heap_put (heap_put hZ.flow)) h23) h24,
   heap_setbox (heap_put (heap_set1 (heap_setbox hZ.flag h23.symm) h23.symm)) h34,
   heap_put (heap_setbox (heap_set1 (heap_setbox hZ.err h24.symm) h24.symm) h34.symm)⟩
theorem Stop.below {b2 b3 b4 : Nat} {x y : Int} {ok : Bool} {w W : World} (h : Stop b2 b3 b4 x y ok w) (hb : Below w.heap.size w W) : Stop b2 b3 b4 x y ok W := ⟨heap_below h.flow hb, heap_below h.flag hb, heap_below h.err hb⟩
def badB (l : List Int) (x y : Nat) : Bool := decide (jnF l x y = 0) || decide (jnF (turnL l) x y = 0)
set_option maxRecDepth 100000 in
set_option maxHeartbeats 4000000 in
theorem lat_round (l_ : Nat) (A A1 : Option Addr) (c c1 : Nat) (l : List Int) (x y : Nat) (n0 b2 b3 b4 pP p7 g pS pS2 Bx : Nat) (W : World) (c_ : Code) (hc_ : (Try.f24.body.bind rfBody).bind rfBody = some c_)
    (hZ : Stop b2 b3 b4 0 0 false W) (hn2 : n0 ≤ b2) (hn3 : n0 ≤ b3) (hn4 : n0 ≤ b4) (h23 : b2 ≠ b3) (h24 : b2 ≠ b4) (h34 : b3 ≠ b4) (hX : Boxed W Bx 3 (.int .i64 (x : Int))) (hp7 : Boxed W p7 73 (.slice (some ⟨g, 0, none⟩) 2 2)) (hg : W.heap[g]? = some (.cells #[.func (.func 52) #[.slice A l.length c] #[], .func (.func 52) #[.slice A1 l.length c1] #[]] 69 (0, 0)))
    (hL : Kd.C (Kd.int .u64) W A l.length l) (hc : l.length ≤ c) (hT : Kd.C (Kd.int .u64) W A1 l.length (turnL l)) (hc1 : l.length ≤ c1) (hok : okUb l = true) (h16 : l.length ≤ 16) (hx : x < l.length) (hy : y < l.length) (hn0 : n0 ≤ W.heap.size) :
    c_.wpIn (Fence.wide.inRound l_) 5 Try.prog (fun e a w' => (e = .normal ∧ badB l x y = false ∧ Below W.heap.size W w') ∨ (e = .ret ∧ badB l x y = true ∧ KeepsOthers W w' ∧ Below n0 W w' ∧ Stop b2 b3 b4 x y false w')) { tmps := #[.slice A l.length c, undef, .pointer (some ⟨b2, 0, none⟩), .pointer (some ⟨b3, 0, none⟩), .pointer (some ⟨b4, 0, none⟩), .int .i64 0, .pointer (some ⟨pP, 0, none⟩), .pointer (some ⟨p7, 0, none⟩), .pointer (some ⟨Bx, 0, none⟩), .int .i64 (y : Int), undef, undef, .slice A l.length c, .int .i64 0, .int .i64 0, .bool false, undef, undef, .slice A l.length c, .slice A l.length c, .func (.func 52) #[.slice A l.length c] #[], .slice A l.length c, .slice A1 l.length c1, .func (.func 52) #[.slice A1 l.length c1] #[], .slice (some ⟨g, 0, none⟩) 2 2, .slice A l.length c, .func (.func 70) #[] #[.pointer (some ⟨pS, 0, none⟩)], .int .i64 (x : Int), .slice A l.length c, .func (.func 70) #[] #[.pointer (some ⟨pS2, 0, none⟩)], .int .i64 (y : Int), undef, undef, undef, undef, undef, undef, undef, undef, undef, undef, undef, undef, undef, undef, undef, undef], defers := [] } W := by
  simp [rfBody, Try.f24] at hc_
  subst hc_
  have HJ := fun W' hb => CallsIn.inRound l_ ((callsIn_wide (n := 4)).2 (joins_call A c l x y W' (Kd.C_below hL hb) hc hok h16 (by omega) (by omega) (by omega) (by omega)))
  have hTl := turnL_len l
  have HM := fun W' hb => CallsIn.inRound l_ ((callsIn_wide (n := 4)).2 (joins_call A1 c1 (turnL l) x y W' (by rw [hTl]; exact Kd.C_below hT hb) (by omega) (turnL_ok (by omega)) (by omega) (by omega) (by omega) (by omega) (by omega)))
  rw [hTl] at HM
  have hBad : badB l x y = (decide (jnF l x y = 0) || decide (jnF (turnL l) x y = 0)) := rfl
  generalize hj : jnF l x y = j at HJ hBad
  generalize hm : jnF (turnL l) x y = m at HM hBad
  generalize hb_ : badB l x y = b at hBad ⊢
  have cX := hX.cell
  have c7 := hp7.cell
  have cg0 : W.cell? ⟨g, 0, none⟩ = some (.func (.func 52) #[.slice A l.length c] #[]) := by simp [World.cell?, hg]
  have cg1 : W.cell? ⟨g, 1, none⟩ = some (.func (.func 52) #[.slice A1 l.length c1] #[]) := by simp [World.cell?, hg]
  have f52 : Fence.wide.fn 52 := trivial
  clear hj hm hb_ hTl hL hT hok h16 hx hy
  have hKO := KeepsOthers.refl W
  have hBW := Below.refl W.heap.size W
  gi_wp2
  gi_loopw [33] (fun v33 w1 => (v33 = .int .i64 0 ∨ (v33 = .int .i64 1 ∧ j ≠ 0) ∨ (v33 = .int .i64 2 ∧ j ≠ 0 ∧ m ≠ 0)) ∧ Below W.heap.size W w1)
    (fun v33 _ => match v33 with | .int _ z => 2 - z.toNat | _ => 0)
  case atStart => exact ⟨.inl rfl, hBW⟩
  case round =>
    obtain ⟨rfl | ⟨rfl, hj0⟩ | ⟨rfl, hj0, hm0⟩, hB⟩ := hrel
    · have cX1 := vcell hB cX
      have cg01 := vcell hB cg0
      gi_wp2
      refine CallsIn.mono (HJ wr hB) ?_
      rintro e w2 ⟨rfl, hb2⟩
      have hB2 := vbelow_step hB hb2
      have hn3_ := h23.symm
      have hn4_ := h24.symm
      have hn5_ := h34.symm
      have hZ2 := hZ.below hB2
      have cX2 := vcell hB2 cX
      have k20 : w2.cell? ⟨b2, 0, none⟩ = some (.int .i64 0) := by simp [World.cell?, hZ2.flow]
      have k21 : w2.cell? ⟨b2, 1, none⟩ = some (.int .i64 0) := by simp [World.cell?, hZ2.flow]
      have k30 : w2.cell? ⟨b3, 0, none⟩ = some (.bool false) := by simp [World.cell?, hZ2.flag]
      have k40 : w2.cell? ⟨b4, 0, none⟩ = some (.int .i64 0) := by simp [World.cell?, hZ2.err]
      have f20 : w2.frozen? ⟨b2, 0, none⟩ = false := by simp [World.frozen?, hZ2.flow]
      have f21 : w2.frozen? ⟨b2, 1, none⟩ = false := by simp [World.frozen?, hZ2.flow]
      have f30 : w2.frozen? ⟨b3, 0, none⟩ = false := by simp [World.frozen?, hZ2.flag]
      have f40 : w2.frozen? ⟨b4, 0, none⟩ = false := by simp [World.frozen?, hZ2.err]
      by_cases hj0 : j = 0
      · have hjb : (j == 0) = true := beq_iff_eq.2 hj0
        have hBt : b = true := by rw [hBad]; simp [hj0]
        have hPut := Stop.put (x := x) (y := y) (ok := false) hZ2 h23 h24 h34 hn2 hn3 hn4 (keeps_below hB2) (hB2.mono hn0)
        clear hBad hj0
        gi_wp2
      · have hjb : (j == 0) = false := beq_eq_false_iff_ne.2 hj0
        gi_wp2
        go_roundw
        case rel => exact ⟨.inr (.inl ⟨rfl, hj0⟩), hB2⟩
        case measure => simp
    · have cX1 := vcell hB cX
      have cg11 := vcell hB cg1
      gi_wp2
      refine CallsIn.mono (HM wr hB) ?_
      rintro e w2 ⟨rfl, hb2⟩
      have hB2 := vbelow_step hB hb2
      have hn3_ := h23.symm
      have hn4_ := h24.symm
      have hn5_ := h34.symm
      have hZ2 := hZ.below hB2
      have cX2 := vcell hB2 cX
      have k20 : w2.cell? ⟨b2, 0, none⟩ = some (.int .i64 0) := by simp [World.cell?, hZ2.flow]
      have k21 : w2.cell? ⟨b2, 1, none⟩ = some (.int .i64 0) := by simp [World.cell?, hZ2.flow]
      have k30 : w2.cell? ⟨b3, 0, none⟩ = some (.bool false) := by simp [World.cell?, hZ2.flag]
      have k40 : w2.cell? ⟨b4, 0, none⟩ = some (.int .i64 0) := by simp [World.cell?, hZ2.err]
      have f20 : w2.frozen? ⟨b2, 0, none⟩ = false := by simp [World.frozen?, hZ2.flow]
      have f21 : w2.frozen? ⟨b2, 1, none⟩ = false := by simp [World.frozen?, hZ2.flow]
      have f30 : w2.frozen? ⟨b3, 0, none⟩ = false := by simp [World.frozen?, hZ2.flag]
      have f40 : w2.frozen? ⟨b4, 0, none⟩ = false := by simp [World.frozen?, hZ2.err]
      by_cases hm0 : m = 0
      · have hjb : (m == 0) = true := beq_iff_eq.2 hm0
        have hBt : b = true := by rw [hBad]; simp [hm0]
        have hPut := Stop.put (x := x) (y := y) (ok := false) hZ2 h23 h24 h34 hn2 hn3 hn4 (keeps_below hB2) (hB2.mono hn0)
        clear hBad hm0
        gi_wp2
      · have hjb : (m == 0) = false := beq_eq_false_iff_ne.2 hm0
        gi_wp2
        go_roundw
        case rel => exact ⟨.inr (.inr ⟨rfl, hj0, hm0⟩), hB2⟩
        case measure => simp
    · gi_wp2
end Go.Proofs.Ytlbjcmiegbejdaa.Q

/- Layer 2: whether flows are a lattice: the function whole. -/
namespace Go.Proofs.Ytlbjcmiegbejdaa.Q
open Go.RowKit Go.Shelf Bm
attribute [local go_sem] Oper.semAt_some
set_option linter.unusedVariables false
set_option linter.unusedSimpArgs false
open Go.Proofs.YtlbjcmiegbejdaaW.PrintWords Go.Proofs.YtlbjcmiegbejdaaW.PrintMore Go.Proofs.YtlbjcmiegbejdaaW.PrintLast
theorem stop_own {β ι : Type} (b2 b3 b4 : Nat) (G : β → ι → ι → Prop) (f : ι → Int) (ok : Bool) : Own (fun s W => ∃ x y, G s x y ∧ Stop b2 b3 b4 (f x) (f y) ok W) := by
  rintro s X Y row ⟨x, y, hG, h1, h2, h3⟩ hg hr
  exact ⟨x, y, hG, (grownBy_keeps_cells hg hr h1 rfl).trans h1, (grownBy_keeps_cells hg hr h2 rfl).trans h2, (grownBy_keeps_cells hg hr h3 rfl).trans h3⟩
theorem Stop.putObj {b2 b3 b4 D : Nat} {x y : Int} {ok : Bool} {W : World} {o o' : Obj} (h : Stop b2 b3 b4 x y ok W) (hD : W.heap[D]? = some o) (ho : o.isCells = false) : Stop b2 b3 b4 x y ok (W.putObj D o') := by
  have hg := grownBy_putObj' W D o'
  have hr : ∀ r, some D = some r → ∃ o : Obj, W.heap[r]? = some o ∧ o.isCells = false := fun r e => by cases e; exact ⟨o, hD, ho⟩
  exact ⟨(grownBy_keeps_cells hg hr h.flow rfl).trans h.flow, (grownBy_keeps_cells hg hr h.flag rfl).trans h.flag, (grownBy_keeps_cells hg hr h.err rfl).trans h.err⟩
/-- x is the first label that has a bad partner, y its first one. -/
def FirstAt (l : List Int) (pre : List (Fin l.length)) (x y : Fin l.length) : Prop :=
  ∃ p0, pre = p0 ++ [x] ∧ (∀ x' : Fin l.length, x' ∈ p0 → ∀ y' : Fin l.length, badB l x' y' = false) ∧ ∃ q, q ++ [y] <+: labs l.length l.length ∧ (∀ y' : Fin l.length, y' ∈ q → badB l x y' = false) ∧ badB l x y = true
theorem all_labs {m : Nat} (x : Fin m) : x ∈ labs m m := by
  unfold labs
  rw [List.take_of_length_le (by simp)]
  exact List.mem_finRange x
theorem cell_of_heap {W : World} {b j : Nat} {cs : Array Value} {t : TypeId} {v : Value} (h : W.heap[b]? = some (.cells cs t (0, 0))) (hv : cs[j]? = some v) : W.cell? ⟨b, j, none⟩ = some v := by
  unfold World.cell?
  simp only [h]
  simp [hv]
set_option maxRecDepth 100000 in
set_option maxHeartbeats 4000000 in
theorem lattice_ok (A : Option Addr) (c : Nat) (l : List Int) (w : World) (hC : Kd.C (Kd.int .u64) w A l.length l) (hc : l.length ≤ c) (hok : okUb l = true) (h16 : l.length ≤ 16) (hck : lattice_Check.f l = some 0) (hs : lattice_shape.f l = some 0) :
    Calls Try.prog 24 #[.slice A l.length c] w fun e w' => ((e = .returned (.tuple #[.agg #[.int .i64 0, .int .i64 0], .bool true, .int .i64 0]) ∧ ∀ x y : Fin l.length, badB l x y = false) ∨ ∃ (pre : List (Fin l.length)) (x y : Fin l.length), pre <+: labs l.length l.length ∧ FirstAt l pre x y ∧ e = .returned (.tuple #[.agg #[.int .i64 (x.val : Nat), .int .i64 (y.val : Nat)], .bool false, .int .i64 0])) ∧ Below w.heap.size w w' := by
  refine (callsIn_wide (n := 9)).1 ?_
  have f16 : Fence.wide.fn 16 := trivial
  have f45 : Fence.wide.fn 45 := trivial
  have z2 : Stop w.heap.size (w.heap.size + 1) (w.heap.size + 1 + 1) 0 0 false (((w.alloc (.cells #[.int .i64 0, .int .i64 0] 32)).alloc (.cells #[.bool false] 4)).alloc (.cells #[.int .i64 0] 26)) := by
    refine ⟨heap_alloc' (heap_alloc' (World.alloc_heap_new w _)), ?_, ?_⟩
    · have h_ := World.alloc_heap_new (w.alloc (.cells #[.int .i64 0, .int .i64 0] 32)) (.cells #[.bool false] 4)
      rw [World.size_alloc] at h_
      exact heap_alloc' h_
    · have h_ := World.alloc_heap_new ((w.alloc (.cells #[.int .i64 0, .int .i64 0] 32)).alloc (.cells #[.bool false] 4)) (.cells #[.int .i64 0] 26)
      simp only [World.size_alloc] at h_
      exact h_
  have hBa : Below w.heap.size w (((w.alloc (.cells #[.int .i64 0, .int .i64 0] 32)).alloc (.cells #[.bool false] 4)).alloc (.cells #[.int .i64 0] 26)) := vbelow_alloc (vbelow_alloc (vbelow_alloc (Below.refl _ _) _) _) _
  have hCa := Kd.C_below hC hBa
  have hza : w.heap.size + 3 ≤ (((w.alloc (.cells #[.int .i64 0, .int .i64 0] 32)).alloc (.cells #[.bool false] 4)).alloc (.cells #[.int .i64 0] 26)).heap.size := by simp
  refine callsIn_of_wp_marks Try.func24 rfl trivial ?_ rfl
  simp only [Try.ntmps24, List.size_toArray, List.length_cons, List.length_nil, Nat.reduceAdd, Nat.reduceSub, Array.replicate_succ, Array.replicate_zero, List.push_toArray, List.append_toArray, List.nil_append, List.cons_append]
  gi_wp2_with (gi_at_call 16; refine ((callsIn_wide (n := 8)).2 (lattice_Check.calls A c l 0 _ hCa hc hck)).mono ?_; rintro e w1 ⟨rfl, hb1⟩; have z1 := z2.below hb1; have hC1 := Kd.C_below hCa hb1; have hB1 := vbelow_step hBa hb1; have hz1 := hb1.size)
  have bP0 := Boxed.new w1 61 (.slice A l.length c)
  have hC2 := Kd.C_alloc hC1 (.cells #[.slice A l.length c] 61)
  refine wpIn_mono (wpIn_wide.2 (lat_r5 A c l _ _ _ _ _ _ (by rfl) bP0 hC2 hc hs)) ?_
  intro e a W5 h_
  obtain ⟨rfl, A1, c1, g, p7, rfl, HT, hg, b7, hb5⟩ := NoPanic.imp _ _ _ h_
  clear h_
  have bP := boxed_below bP0 hb5
  have cP := bP.cell
  have z5 := (z1.below (vbelow_alloc (Below.refl _ w1) _)).below hb5
  have hC5 := Kd.C_below hC2 hb5
  have hB5 := vbelow_step (vbelow_alloc hB1 (.cells #[.slice A l.length c] 61)) hb5
  have hT5 := (Kd.R_reads' HT).2.2
  have hc1 := (Kd.R_reads' HT).2.1
  rw [turnL_len] at hT5
  have hz5 := hb5.size
  rw [World.size_alloc] at hz5
  clear HT z1 z2 hBa hCa hC hC1 hC2 bP0 hb1 hb5 hB1
  gi_wp2_with (gi_at_call 45; refine (labels_in Fence.wide 8 trivial rfl _ _ _ _).mono ?_; rintro e w' ⟨rfl, rfl⟩)
  have bS := Boxed.new W5 61 (.slice A l.length c)
  have bP6 := bP.alloc (.cells #[.slice A l.length c] 61)
  have b76 := b7.alloc (.cells #[.slice A l.length c] 61)
  have hg6 := heap_alloc' (o' := .cells #[.slice A l.length c] 61) hg
  have hC6 := Kd.C_alloc hC5 (.cells #[.slice A l.length c] 61)
  have hT6 := Kd.C_alloc hT5 (.cells #[.slice A l.length c] 61)
  have z6 := z5.below (vbelow_alloc (Below.refl _ W5) (.cells #[.slice A l.length c] 61))
  have hB6 := vbelow_alloc hB5 (.cells #[.slice A l.length c] 61)
  have hsz : (W5.alloc (.cells #[.slice A l.length c] 61)).heap.size = W5.heap.size + 1 := World.size_alloc _ _
  generalize hW0 : W5.alloc (.cells #[.slice A l.length c] 61) = W0 at bS bP6 b76 hg6 hC6 hT6 z6 hB6 hsz ⊢
  clear bP cP b7 hg hC5 hT5 z5 hB5
  refine wpIn_rangeFunc_ownH rfl (by omega) (gf := 70) (lb := #[.pointer (some ⟨W5.heap.size, 0, none⟩)]) rfl trivial (enters_of Try.func70 (by kernel_rfl) rfl)
    (labels_stops Fence.wide 8 trivial rfl (by omega) W5.heap.size l.length c A (by omega) W0 (by omega) bS.cell) KC_t (KC_b (by omega)) (Below.refl _ _) (fun _ => rfl)
    (fun pre W => (∀ x : Fin l.length, x ∈ pre → ∀ y : Fin l.length, badB l x y = false) ∧ Below W0.heap.size W0 W)
    (fun c_ pre W => (∃ x y : Fin l.length, (c_ = .ret ∧ FirstAt l pre x y) ∧ Stop w.heap.size (w.heap.size + 1) (w.heap.size + 1 + 1) (x.val : Nat) (y.val : Nat) false W) ∧ Below w.heap.size W0 W)
    (OwnFrom.and (ownFrom_pure _ _) (ownFrom_below (Nat.le_refl _) (Nat.le_refl _)))
    (fun c_ => OwnFrom.and (Own.from (stop_own _ _ _ (fun pre x y => c_ = .ret ∧ FirstAt l pre x y) (fun x : Fin l.length => ((x.val : Nat) : Int)) false) _) (ownFrom_below (by omega) (by omega)))
    ⟨by simp, Below.refl _ _⟩
    (fun x a' W => ∃ Bx, W0.heap.size ≤ Bx ∧ Boxed W Bx 3 (.int .i64 ((x : Fin l.length).val : Nat)) ∧ a' = { tmps := #[.slice A l.length c, undef, .pointer (some ⟨w.heap.size, 0, none⟩), .pointer (some ⟨w.heap.size + 1, 0, none⟩), .pointer (some ⟨w.heap.size + 1 + 1, 0, none⟩), .int .i64 0, .pointer (some ⟨w1.heap.size, 0, none⟩), .pointer (some ⟨p7, 0, none⟩), .pointer (some ⟨Bx, 0, none⟩), undef, undef, undef, .slice A l.length c, .int .i64 0, .int .i64 0, .bool false, undef, undef, .slice A l.length c, .slice A l.length c, .func (.func 52) #[.slice A l.length c] #[], .slice A l.length c, .slice A1 l.length c1, .func (.func 52) #[.slice A1 l.length c1] #[], .slice (some ⟨g, 0, none⟩) 2 2, .slice A l.length c, .func (.func 70) #[] #[.pointer (some ⟨W5.heap.size, 0, none⟩)], .int .i64 ((x : Fin l.length).val : Nat), undef, undef, undef, undef, undef, undef, undef, undef, undef, undef, undef, undef, undef, undef, undef, undef, undef, undef, undef], defers := [] })
    (fun x a' _ X Y row hs hg hr => by obtain ⟨Bx, e1, e2, e3⟩ := hs; exact ⟨Bx, e1, boxed_own Bx 3 (fun (_ : Unit) => Value.int .i64 (x.val : Nat)) () X Y row e2 hg (fun r e => (hr r e).2), e3⟩)
    ?assign ?body ?done ?stop
  case assign =>
    rintro l_ pre x W K ⟨hp, hB⟩ hK
    have hS := boxed_below bS hB
    gi_wp2
    exact hK _ _ ((KeepsOthers.alloc _ _).from _) (KC_of hS (hS.alloc _)) ⟨hp, hB.alloc hB.size _⟩ ⟨W.heap.size, hB.size, Boxed.new W 3 _, rfl⟩
  case body =>
    rintro l_ pre x a' W hl ⟨r, hr⟩ ⟨hp, hB⟩ ⟨Bx, hBx, bX, rfl⟩ hlt
    have hS := boxed_below bS hB
    have bPw := boxed_below bP6 hB
    have cP := bPw.cell
    have hsW := hB.size
    gi_wp2_with (gi_at_call 45; refine (CallsIn.inRound l_ (labels_in Fence.wide 6 trivial rfl _ _ _ _)).mono ?_; rintro e w' ⟨rfl, rfl⟩)
    have bN := Boxed.new W 61 (.slice A l.length c)
    have hr' : (W.alloc (.cells #[.slice A l.length c] 61)).heap[l_]? = some (.loop r) := heap_alloc' hr
    refine wpIn_rangeFunc_ownN (l₀ := l_) (r₀ := r) rfl hr' (by omega) (gf := 70) (lb := #[.pointer (some ⟨W.heap.size, 0, none⟩)]) rfl trivial (enters_of Try.func70 (by kernel_rfl) rfl)
      ((labels_stops Fence.wide 6 trivial rfl (by omega) W.heap.size l.length c A (by omega) _ (by simp) bN.cell).inRound l_) KC_t (KC_b (by simp)) (Below.refl _ _) (fun _ => rfl)
      (fun pre' W' => ((∀ y ∈ pre', badB l x.val (y : Fin l.length).val = false) ∧ Boxed W' Bx 3 (.int .i64 (x.val : Nat)) ∧ Boxed W' W.heap.size 61 (.slice A l.length c)) ∧ (Below W0.heap.size W W' ∧ KeepsFrom W0.heap.size W W'))
      (fun c_ pre' W' => (∃ x2 y : Fin l.length, (c_ = .ret ∧ x2 = x ∧ ∃ q, pre' = q ++ [y] ∧ (∀ y' ∈ q, badB l x.val (y' : Fin l.length).val = false) ∧ badB l x.val y.val = true) ∧ Stop w.heap.size (w.heap.size + 1) (w.heap.size + 1 + 1) (x2.val : Nat) (y.val : Nat) false W') ∧ (Below w.heap.size W W' ∧ KeepsFrom W0.heap.size W W'))
      (OwnFrom.and (OwnFrom.and (ownFrom_pure _ _) (OwnFrom.and (Own.from (boxed_own _ _ _) _) (Own.from (boxed_own _ _ _) _))) (OwnFrom.and (ownFrom_below hsW (by simp; omega)) (ownFrom_keepsFrom (by simp))))
      (fun c_ => OwnFrom.and (Own.from (stop_own _ _ _ (fun (pre' : List (Fin l.length)) x2 y => c_ = .ret ∧ x2 = x ∧ ∃ q, pre' = q ++ [y] ∧ (∀ y' ∈ q, badB l x.val (y' : Fin l.length).val = false) ∧ badB l x.val y.val = true) (fun x : Fin l.length => ((x.val : Nat) : Int)) false) _) (OwnFrom.and (ownFrom_below (by omega) (by simp; omega)) (ownFrom_keepsFrom (by simp))))
      ⟨⟨by simp, bX.alloc _, bN⟩, (Below.refl _ W).alloc hsW _, (KeepsOthers.alloc _ _).from _⟩
      (fun y a'' _ => a'' = { tmps := #[.slice A l.length c, undef, .pointer (some ⟨w.heap.size, 0, none⟩), .pointer (some ⟨w.heap.size + 1, 0, none⟩), .pointer (some ⟨w.heap.size + 1 + 1, 0, none⟩), .int .i64 0, .pointer (some ⟨w1.heap.size, 0, none⟩), .pointer (some ⟨p7, 0, none⟩), .pointer (some ⟨Bx, 0, none⟩), .int .i64 ((y : Fin l.length).val : Nat), undef, undef, .slice A l.length c, .int .i64 0, .int .i64 0, .bool false, undef, undef, .slice A l.length c, .slice A l.length c, .func (.func 52) #[.slice A l.length c] #[], .slice A l.length c, .slice A1 l.length c1, .func (.func 52) #[.slice A1 l.length c1] #[], .slice (some ⟨g, 0, none⟩) 2 2, .slice A l.length c, .func (.func 70) #[] #[.pointer (some ⟨W5.heap.size, 0, none⟩)], .int .i64 ((x : Fin l.length).val : Nat), .slice A l.length c, .func (.func 70) #[] #[.pointer (some ⟨W.heap.size, 0, none⟩)], .int .i64 ((y : Fin l.length).val : Nat), undef, undef, undef, undef, undef, undef, undef, undef, undef, undef, undef, undef, undef, undef, undef, undef], defers := [] })
      (fun _ _ _ _ _ _ hs _ _ => hs)
      ?assign2 ?body2 ?done2 ?stop2
    case assign2 =>
      rintro l2 pre' y W' K hi hK
      gi_wp2
      exact hK _ _ (KeepsFrom.refl _ _) rfl hi rfl
    case body2 =>
      rintro l2 pre' y a'' W' _ _ ⟨⟨hq, bX2, bN2⟩, hBW, hKF⟩ rfl _
      have hB2 := hB.trans hBW
      refine wpIn_mono (lat_round l2 A A1 c c1 l x.val y.val w.heap.size w.heap.size (w.heap.size + 1) (w.heap.size + 1 + 1) w1.heap.size p7 g W5.heap.size W.heap.size Bx W' _ (by rfl) (z6.below hB2) (by omega) (by omega) (by omega) (by omega) (by omega) (by omega) bX2 (boxed_below b76 hB2) (heap_below hg6 hB2) (Kd.C_below hC6 hB2) hc (Kd.C_below hT6 hB2) hc1 hok h16 x.2 y.2 (by have := hB2.size; omega)) ?_
      rintro e a w' (⟨rfl, hgood, hBn⟩ | ⟨rfl, hbad, hKO, hB0, hSt⟩)
      · exact ⟨(keeps_below hBn).from _, KC_of bN2 (boxed_below bN2 hBn), ⟨fun z hz => (List.mem_append.1 hz).elim (hq z) (fun e => by simp at e; subst e; exact hgood), boxed_below bX2 hBn, boxed_below bN2 hBn⟩, hBW.trans (hBn.mono hB2.size), hKF.trans ((keeps_below hBn).from _)⟩
      · exact ⟨hKO.from _, ⟨x, y, ⟨rfl, rfl, pre', rfl, hq, hbad⟩, hSt⟩, (hBW.mono (by omega)).trans hB0, hKF.trans (hKO.from _)⟩
    case done2 =>
      rintro ys' W' rfl ⟨⟨hq, bX2, bN2⟩, hBW, hKF⟩
      gi_wp2
      exact ⟨hKF, KC_of hS (boxed_below bS (hB.trans hBW)), fun z hz => (List.mem_append.1 hz).elim (hp z) (fun e y => by simp at e; subst e; exact hq y (all_labs y)), hB.trans hBW⟩
    case stop2 =>
      rintro c_ pre' W' hpre ⟨⟨x2, y, ⟨rfl, rfl, q, rfl, hq, hbad⟩, hSt⟩, hBW, hKF⟩
      gi_wp2
      exact ⟨hKF, ⟨x2, y, ⟨rfl, pre, rfl, hp, q, hpre, hq, hbad⟩, hSt⟩, (hB.mono (by omega)).trans hBW⟩
  case done =>
    rintro D zs W hD rfl ⟨hp, hB⟩ hK
    have hZ2 := z6.below hB
    have k20 : W.cell? ⟨w.heap.size, 0, none⟩ = some (.int .i64 0) := by simp [World.cell?, hZ2.flow]
    have k21 : W.cell? ⟨w.heap.size, 1, none⟩ = some (.int .i64 0) := by simp [World.cell?, hZ2.flow]
    have k30 : W.cell? ⟨w.heap.size + 1, 0, none⟩ = some (.bool false) := by simp [World.cell?, hZ2.flag]
    have k40 : W.cell? ⟨w.heap.size + 1 + 1, 0, none⟩ = some (.int .i64 0) := by simp [World.cell?, hZ2.err]
    have f20 : W.frozen? ⟨w.heap.size, 0, none⟩ = false := by simp [World.frozen?, hZ2.flow]
    have f21 : W.frozen? ⟨w.heap.size, 1, none⟩ = false := by simp [World.frozen?, hZ2.flow]
    have f30 : W.frozen? ⟨w.heap.size + 1, 0, none⟩ = false := by simp [World.frozen?, hZ2.flag]
    have f40 : W.frozen? ⟨w.heap.size + 1 + 1, 0, none⟩ = false := by simp [World.frozen?, hZ2.err]
    have hPut := Stop.put (x := 0) (y := 0) (ok := true) (n0 := w.heap.size) (w0 := W) hZ2 (by omega) (by omega) (by omega) (Nat.le_refl _) (by omega) (by omega) (KeepsOthers.refl W) (Below.refl _ _)
    have hSz := hB.size
    have hn1 : w.heap.size + 1 ≠ w.heap.size := by omega
    have hn2 : w.heap.size + 1 + 1 ≠ w.heap.size := by omega
    have hn3 : w.heap.size + 1 + 1 ≠ w.heap.size + 1 := by omega
    gi_wp2
    have hK' := hPut.1.same D _ hK rfl
    have hSt := hPut.2.2.putObj (o' := .deferred none) hK' rfl
    refine ⟨by simp, .inl ⟨_, _, rfl, run_takeDeferred hK', ?_⟩⟩
    have r20 := cell_of_heap (j := 0) hSt.flow rfl
    have r21 := cell_of_heap (j := 1) hSt.flow rfl
    have r30 := cell_of_heap (j := 0) hSt.flag rfl
    have r40 := cell_of_heap (j := 0) hSt.err rfl
    refine ⟨.tuple #[.agg #[.int .i64 0, .int .i64 0], .bool true, .int .i64 0], ?_, .inl ⟨rfl, fun x y => hp x (all_labs x) y⟩, (hB6.trans ((hB.mono (by omega)).trans hPut.2.1)).trans (belowK_b (w := w) (Nat.le_refl _) _ D _ _ (by omega) hK' rfl rfl)⟩
    simp [results, Try.f24, go_sem, r20, r21, r30, r40]
  case stop =>
    rintro D c_ pre W hD hpre ⟨⟨x, y, ⟨rfl, hF⟩, hSt0⟩, hB⟩ hK
    gi_wp2
    have hSt := hSt0.putObj (o' := .deferred none) hK rfl
    refine ⟨by simp, .inl ⟨_, _, rfl, run_takeDeferred hK, ?_⟩⟩
    have r20 := cell_of_heap (j := 0) hSt.flow rfl
    have r21 := cell_of_heap (j := 1) hSt.flow rfl
    have r30 := cell_of_heap (j := 0) hSt.flag rfl
    have r40 := cell_of_heap (j := 0) hSt.err rfl
    refine ⟨.tuple #[.agg #[.int .i64 (x.val : Nat), .int .i64 (y.val : Nat)], .bool false, .int .i64 0], ?_, .inr ⟨pre, x, y, hpre, hF, rfl⟩, (hB6.trans hB).trans (belowK_b (w := w) (Nat.le_refl _) W D _ _ (by omega) hK rfl rfl)⟩
    simp [results, Try.f24, go_sem, r20, r21, r30, r40]
end Go.Proofs.Ytlbjcmiegbejdaa.Q

/- Layer 2: Lattice and Flows in the printed form. -/
namespace Go.Proofs.Ytlbjcmiegbejdaa.Q
open Go.RowKit Go.Shelf Bm
attribute [local go_sem] Oper.semAt_some
set_option linter.unusedVariables false
set_option linter.unusedSimpArgs false
open Go.Proofs.YtlbjcmiegbejdaaW.PrintWords Go.Proofs.YtlbjcmiegbejdaaW.PrintMore Go.Proofs.YtlbjcmiegbejdaaW.PrintLast
attribute [local go_sem] max2_int min2_int max_two min_two max_three min_three max_four min_four
/-- The first two labels that lack a join or a meet. -/
def latF (l : List Int) : Option (Nat × Nat) := (labs l.length l.length).findSome? fun x : Fin l.length => ((labs l.length l.length).find? fun y : Fin l.length => badB l x.val y.val).map fun y => (x.val, y.val)
theorem latF_none {l : List Int} (h : ∀ x y : Fin l.length, badB l x y = false) : latF l = none := by
  unfold latF
  rw [List.findSome?_eq_none_iff]
  intro x _
  rw [Option.map_eq_none_iff, List.find?_eq_none]
  intro y _
  rw [h x y]
  decide
theorem latF_some {l : List Int} {pre : List (Fin l.length)} {x y : Fin l.length} (hp : pre <+: labs l.length l.length) (h : FirstAt l pre x y) : latF l = some (x.val, y.val) := by
  obtain ⟨p0, rfl, hg, q, hq, hq2, hb⟩ := h
  have e1 : ((labs l.length l.length).find? fun y : Fin l.length => badB l x.val y.val) = some y := by
    obtain ⟨r, hr⟩ := hq
    rw [← hr, List.append_assoc, List.find?_append]
    have h0 : (q.find? fun y : Fin l.length => badB l x.val y.val) = none := by
      rw [List.find?_eq_none]
      intro y' hy'
      rw [hq2 y' hy']
      decide
    rw [h0]
    simp [hb]
  have hS : ∀ z : List (Fin l.length), z = p0 ++ [x] → ∀ r, (z ++ r).findSome? (fun x : Fin l.length => ((labs l.length l.length).find? fun y : Fin l.length => badB l x.val y.val).map fun y => (x.val, y.val)) = some (x.val, y.val) := by
    rintro _ rfl r
    rw [List.append_assoc, List.findSome?_append]
    have h0 : p0.findSome? (fun x : Fin l.length => ((labs l.length l.length).find? fun y : Fin l.length => badB l x.val y.val).map fun y => (x.val, y.val)) = none := by
      rw [List.findSome?_eq_none_iff]
      intro x' hx'
      rw [Option.map_eq_none_iff, List.find?_eq_none]
      intro y' _
      rw [hg x' hx' y']
      decide
    rw [h0]
    simp [e1]
  obtain ⟨r, hr⟩ := hp
  have := hS _ rfl r
  rw [hr] at this
  exact this
set_option maxRecDepth 100000 in
set_option maxHeartbeats 4000000 in
theorem lattice_err (A : Option Addr) (c : Nat) (l : List Int) (e0 : Int) (w : World) (hC : Kd.C (Kd.int .u64) w A l.length l) (hc : l.length ≤ c) (hck : lattice_Check.f l = some e0) (he : e0 ≠ 0) :
    Calls Try.prog 24 #[.slice A l.length c] w fun e w' => e = .returned (.tuple #[.agg #[.int .i64 0, .int .i64 0], .bool false, .int .i64 e0]) ∧ Below w.heap.size w w' := by
  refine (callsIn_wide (n := 9)).1 ?_
  have f16 : Fence.wide.fn 16 := trivial
  have hne : (e0 != 0) = true := bne_iff_ne.2 he
  have z2 : Stop w.heap.size (w.heap.size + 1) (w.heap.size + 1 + 1) 0 0 false (((w.alloc (.cells #[.int .i64 0, .int .i64 0] 32)).alloc (.cells #[.bool false] 4)).alloc (.cells #[.int .i64 0] 26)) := by
    refine ⟨heap_alloc' (heap_alloc' (World.alloc_heap_new w _)), ?_, ?_⟩
    · have h_ := World.alloc_heap_new (w.alloc (.cells #[.int .i64 0, .int .i64 0] 32)) (.cells #[.bool false] 4)
      rw [World.size_alloc] at h_
      exact heap_alloc' h_
    · have h_ := World.alloc_heap_new ((w.alloc (.cells #[.int .i64 0, .int .i64 0] 32)).alloc (.cells #[.bool false] 4)) (.cells #[.int .i64 0] 26)
      simp only [World.size_alloc] at h_
      exact h_
  have hBa : Below w.heap.size w (((w.alloc (.cells #[.int .i64 0, .int .i64 0] 32)).alloc (.cells #[.bool false] 4)).alloc (.cells #[.int .i64 0] 26)) := vbelow_alloc (vbelow_alloc (vbelow_alloc (Below.refl _ _) _) _) _
  have hCa := Kd.C_below hC hBa
  refine callsIn_of_wp_marks Try.func24 rfl trivial ?_ rfl
  simp only [Try.ntmps24, List.size_toArray, List.length_cons, List.length_nil, Nat.reduceAdd, Nat.reduceSub, Array.replicate_succ, Array.replicate_zero, List.push_toArray, List.append_toArray, List.nil_append, List.cons_append]
  gi_wp2_with (gi_at_call 16; go_loud (refine ((callsIn_wide (n := 8)).2 (lattice_Check.calls A c l e0 _ hCa hc hck)).mono ?_; rintro e w1 ⟨rfl, hb1⟩; have z1 := z2.below hb1; have hB1 := vbelow_step hBa hb1; have k20 : w1.cell? ⟨w.heap.size, 0, none⟩ = some (.int .i64 0) := (by simp [World.cell?, z1.flow]); have k21 : w1.cell? ⟨w.heap.size, 1, none⟩ = some (.int .i64 0) := (by simp [World.cell?, z1.flow]); have k30 : w1.cell? ⟨w.heap.size + 1, 0, none⟩ = some (.bool false) := (by simp [World.cell?, z1.flag]); have k40 : w1.cell? ⟨w.heap.size + 1 + 1, 0, none⟩ = some (.int .i64 0) := (by simp [World.cell?, z1.err]); have f20 : w1.frozen? ⟨w.heap.size, 0, none⟩ = false := (by simp [World.frozen?, z1.flow]); have f21 : w1.frozen? ⟨w.heap.size, 1, none⟩ = false := (by simp [World.frozen?, z1.flow]); have f30 : w1.frozen? ⟨w.heap.size + 1, 0, none⟩ = false := (by simp [World.frozen?, z1.flag]); have f40 : w1.frozen? ⟨w.heap.size + 1 + 1, 0, none⟩ = false := (by simp [World.frozen?, z1.err]); have hn1 : w.heap.size + 1 ≠ w.heap.size := (by omega); have hn2 : w.heap.size + 1 + 1 ≠ w.heap.size := (by omega); have hn3 : w.heap.size + 1 + 1 ≠ w.heap.size + 1 := (by omega)))
  have hFl := heap_setbox (u := Value.int .i64 e0) (heap_setbox (u := Value.bool false) (heap_put (j := 1) (u := Value.int .i64 0) (heap_put (j := 0) (u := Value.int .i64 0) z1.flow)) (by omega : w.heap.size ≠ w.heap.size + 1)) (by omega : w.heap.size ≠ w.heap.size + 1 + 1)
  have hFg := heap_setbox (u := Value.int .i64 e0) (heap_put (j := 0) (u := Value.bool false) (heap_set1 (u := Value.int .i64 0) (heap_setbox (u := Value.int .i64 0) z1.flag (by omega : w.heap.size + 1 ≠ w.heap.size)) (by omega : w.heap.size + 1 ≠ w.heap.size))) (by omega : w.heap.size + 1 ≠ w.heap.size + 1 + 1)
  have hFe := heap_put (j := 0) (u := Value.int .i64 e0) (heap_setbox (u := Value.bool false) (heap_set1 (u := Value.int .i64 0) (heap_setbox (u := Value.int .i64 0) z1.err (by omega : w.heap.size + 1 + 1 ≠ w.heap.size)) (by omega : w.heap.size + 1 + 1 ≠ w.heap.size)) (by omega : w.heap.size + 1 + 1 ≠ w.heap.size + 1))
  have r20 := cell_of_heap (j := 0) hFl rfl
  have r21 := cell_of_heap (j := 1) hFl rfl
  have r30 := cell_of_heap (j := 0) hFg rfl
  have r40 := cell_of_heap (j := 0) hFe rfl
  refine ⟨.tuple #[.agg #[.int .i64 0, .int .i64 0], .bool false, .int .i64 e0], ?_, rfl, (((hB1.setCell (p := ⟨w.heap.size, 0, none⟩) (Nat.le_refl _) _).setCell (p := ⟨w.heap.size, 1, none⟩) (Nat.le_refl _) _).setCell (p := ⟨w.heap.size + 1, 0, none⟩) (by simp) _).setCell (p := ⟨w.heap.size + 1 + 1, 0, none⟩) (by simp; omega) _⟩
  simp [results, Try.f24, go_sem, r20, r21, r30, r40]
def latT (l : List Int) : Int × Int × Bool × Int := match latF l with
  | none => (0, 0, true, 0)
  | some (x, y) => ((x : Int), (y : Int), false, 0)
def lattice_Lattice.f (l : List Int) : Option (Int × Int × Bool × Int) := (lattice_Check.f l).bind fun e => if e = 0 then some (latT l) else some (0, 0, false, e)
theorem lattice_Lattice.calls (A0 : Option Addr) (c0 : Nat) (l0 : List Int) (r1 : Int) (r2 : Int) (r3 : Bool) (r4 : Int) (w : World) (hr0 : Kd.C (Kd.int .u64) w A0 l0.length l0) (hc0 : l0.length ≤ c0) (h : lattice_Lattice.f l0 = some (r1, r2, r3, r4)) :
    Calls Try.prog 24 #[.slice A0 l0.length c0] w fun e w' => e = .returned (.tuple #[.agg #[.int .i64 r1, .int .i64 r2], .bool r3, .int .i64 r4]) ∧ Below w.heap.size w w' := by
  unfold lattice_Lattice.f at h
  cases hC : lattice_Check.f l0 with
  | none => rw [hC] at h; cases h
  | some e0 =>
    rw [hC, Option.bind_some] at h
    by_cases he : e0 = 0
    · subst he
      rw [if_pos rfl, Option.some.injEq] at h
      have hs := check_shape hC
      refine (lattice_ok A0 c0 l0 w hr0 hc0 (check_okU hC) (shape_zero hs).1 hC hs).mono ?_
      rintro e w' ⟨⟨rfl, hg⟩ | ⟨pre, x, y, hp, hF, rfl⟩, hb⟩
      · have e1 := latF_none hg
        unfold latT at h
        rw [e1] at h
        simp only [Prod.mk.injEq] at h
        obtain ⟨rfl, rfl, rfl, rfl⟩ := h
        exact ⟨rfl, hb⟩
      · have e1 := latF_some hp hF
        unfold latT at h
        rw [e1] at h
        simp only [Prod.mk.injEq] at h
        obtain ⟨rfl, rfl, rfl, rfl⟩ := h
        exact ⟨rfl, hb⟩
    · rw [if_neg he] at h
      simp only [Option.some.injEq, Prod.mk.injEq] at h
      obtain ⟨rfl, rfl, rfl, rfl⟩ := h
      exact lattice_err A0 c0 l0 e0 w hr0 hc0 hC he
/-! ### flowsB: function 61 -/
def flowsB.f (l0 : List Int) (a1 : Int) (a2 : Int) : Option (Bool) := if 0 ≤ a1 then (if a1 < (l0.length : Int) then (if 0 ≤ a2 then (some ((Go.bits .and .u64 (shr .u64 (rd l0 a1) a2) 1) == 1)) else (none)) else (none)) else (none)
set_option maxHeartbeats 8000000 in
set_option maxRecDepth 100000 in
theorem flowsB.calls (A0 : Option Addr) (c0 : Nat) (l0 : List Int) (a1 : Int) (a2 : Int) (r : Bool) (w : World) (hr0 : Kd.C (Kd.int .u64) w A0 l0.length l0) (hc0 : l0.length ≤ c0) (h : flowsB.f l0 a1 a2 = some r) :
    Calls Try.prog 61 #[.slice A0 l0.length c0, .int .i64 a1, .int .i64 a2] w fun e w' => e = .returned (.bool r) ∧ Drawn0 w w' := by
  have HR0 := Aside0.mk hr0
  have HC0 := Aside0.mk hc0
  clear hr0 hc0
  have H : (if 0 ≤ a1 then (if a1 < (l0.length : Int) then (if 0 ≤ a2 then (some ((Go.bits .and .u64 (shr .u64 (rd l0 a1) a2) 1) == 1)) else (none)) else (none)) else (none)) = some r := h
  clear h
  by_cases c4 : 0 ≤ a1
  · rw [if_pos c4] at H
    have c4b0 : decide (0 ≤ a1) = true := decide_eq_true c4
    clear c4
    by_cases c5 : a1 < (l0.length : Int)
    · rw [if_pos c5] at H
      have c5b0 : decide (a1 < (l0.length : Int)) = true := decide_eq_true c5
      clear c5
      by_cases c6 : 0 ≤ a2
      · rw [if_pos c6] at H
        have c6b0 := eq_true c6
        have c6b1 : decide (0 ≤ a2) = true := decide_eq_true c6
        clear c6
        obtain ⟨ji7, hji7⟩ : ∃ j_ : Int, (shr .u64 (rd l0 a1) a2) = j_ := ⟨_, rfl⟩
        replace H : (some ((Go.bits .and .u64 (ji7) 1) == 1)) = some r := by first | (rw [hji7] at H; exact H) | (simp only [hji7] at H ⊢; exact H)
        have hji7_ : ((rd l0 a1) / 2 ^ min a2.toNat 64) = ji7 := hji7
        have hji7z : a2 ≤ 64 → ((rd l0 a1) / 2 ^ a2.toNat) = ji7 := shr_small hji7
        obtain rfl := Option.some.inj H
        have p206 : 0 ≤ (a1 : Int) := of_decide_eq_true (by first | (with_reducible assumption) | assumption)
        have q206 : a1 < (l0.length : Int) := of_decide_eq_true (by first | (with_reducible assumption) | assumption)
        obtain ⟨ad206, e206, hx206_0⟩ := Kd.at_int HR0.out a1 p206 q206
        cases e206
        replace p206 := eq_true p206
        replace q206 := eq_true q206
        go_enter Try.func61, Try.ntmps61
        go_wp2
        go_ret
        exact ⟨by first | rfl | (simp; done) | (simp only [← hji7] <;> (first | rfl | simp)) | (simp [*]; done), by repeat (first | exact Drawn0.refl _ | apply Drawn0.step)⟩
      · rw [if_neg c6] at H
        exact absurd H (by simp)
    · rw [if_neg c5] at H
      exact absurd H (by simp)
  · rw [if_neg c4] at H
    exact absurd H (by simp)

end Go.Proofs.Ytlbjcmiegbejdaa.Q
