/- Layer 10: a store into one cell of an owned row. -/
import Derived.Test.YtcifbemppbegbaaA6
namespace Go.Proofs.Ytcifbemppbegbaa.Q
open Go.RowKit Go.Proofs.YtcifbemppbegbaaW.PrintWords Go.Proofs.YtcifbemppbegbaaW.PrintMore Go.Proofs.YtcifbemppbegbaaW.PrintLast
set_option linter.unusedVariables false
set_option linter.unusedSimpArgs false
theorem ownsRow_put {W : World} {b e s n cap g k : Nat} {cs : List Value} (h : W.ownsRow b e s (.slice (some ⟨g, 0, none⟩) n cap) n cs) (u : Value) : (W.setCell ⟨g, k, none⟩ u).ownsRow b e s (.slice (some ⟨g, 0, none⟩) n cap) n (cs.set k u) := by
  refine ⟨by rw [List.length_set]; exact h.1, ?_⟩
  rcases h.2 with ⟨h2, _⟩ | ⟨g', cap', cur, hv, h1, hh, hle, hcap, hsz, htake⟩
  · cases h2
  · injection hv with e1 e2 e3
    injection e1 with e4
    injection e4 with e5
    subst e5
    subst e3
    refine .inr ⟨g, cap, cur.setIfInBounds k u, rfl, h1, heap_put' hh, hle, hcap, ?_, ?_⟩
    · rw [Array.size_setIfInBounds]
      exact hsz
    · rw [Array.toList_setIfInBounds, List.take_set, htake]
theorem chunk_set {cs : List Value} {i j : Nat} {u : Value} (a0 a1 a2 a3 a4 a5 : Value) (hc : (cs.drop (j * 6)).take 6 = [a0, a1, a2, a3, a4, a5]) : ((cs.set (i * 6 + 3) u).drop (j * 6)).take 6 = [a0, a1, a2, if i = j then u else a3, a4, a5] := by
  rw [List.drop_set]
  by_cases h : i * 6 + 3 < j * 6
  · rw [if_pos h, hc, if_neg (by omega)]
  · rw [if_neg h, List.take_set, hc]
    by_cases hij : i = j
    · subst hij
      rw [if_pos rfl, show i * 6 + 3 - i * 6 = 3 by omega]
      rfl
    · rw [if_neg hij]
      apply List.set_eq_of_length_le
      simp only [List.length_cons, List.length_nil]
      omega
end Go.Proofs.Ytcifbemppbegbaa.Q

/- Layer 10: own's loop, its relation: the first i lanes have claims of their own. -/
namespace Go.Proofs.Ytcifbemppbegbaa.Q
open Go.RowKit Go.Proofs.YtcifbemppbegbaaW.PrintWords Go.Proofs.YtcifbemppbegbaaW.PrintMore Go.Proofs.YtcifbemppbegbaaW.PrintLast
set_option linter.unusedVariables false
set_option linter.unusedSimpArgs false
def Half (w0 : World) (B : Nat) (W : World) (gl n cap : Nat) (xs : List S61) (i : Nat) : Prop := ∃ cs vs : List Value,
  W.ownsRow B 61 6 (.slice (some ⟨gl, 0, none⟩) n cap) n cs ∧ n = xs.length ∧ cs.length = n * 6 ∧ vs.length = n ∧
  (∀ (j : Nat) (x : S61) (u : Value), xs[j]? = some x → vs[j]? = some u → (cs.drop (j * 6)).take 6 = [.int .i64 x.f0, .bool x.f1, .int .i64 x.f2, u, .int .i64 x.f4, .int .i64 x.f5]) ∧
  (∀ (j : Nat) (x : S61) (u : Value), j < i → xs[j]? = some x → vs[j]? = some u → (Kd.int .i64).R 3 W B (fun _ => True) u x.f3) ∧
  (∀ (j : Nat) (x : S61) (u : Value), i ≤ j → xs[j]? = some x → vs[j]? = some u → ∃ A c, u = .slice A x.f3.length c ∧ x.f3.length ≤ c ∧ (Kd.int .i64).C w0 A x.f3.length x.f3) ∧
  (∀ (j : Nat) (u : Value) (k : Nat), j < i → vs[j]? = some u → u.ownBlock = some k → k ≠ gl) ∧
  (∀ (j j' : Nat) (u u' : Value), j < i → j' < i → j ≠ j' → vs[j]? = some u → vs[j']? = some u' → u.ownBlock = none ∨ u.ownBlock ≠ u'.ownBlock)
theorem own_lt {W : World} {B : Nat} {ok : Nat → Prop} {u : Value} {f : List Int} {k : Nat} (h : (Kd.int .i64).R 3 W B ok u f) (hk : u.ownBlock = some k) : B ≤ k ∧ k < W.heap.size := by
  obtain ⟨_, inner, ho, _⟩ := h
  rcases ho.2 with ⟨rfl, _⟩ | ⟨g, cap, cur, rfl, h1, hq, _⟩
  · simp [Value.ownBlock] at hk
  · have : g = k := by simpa [Value.ownBlock] using hk
    subst this
    exact ⟨h1, (Array.getElem?_eq_some_iff.1 hq).1⟩
theorem row_heap {W : World} {b e s n cap g : Nat} {cs : List Value} (h : W.ownsRow b e s (.slice (some ⟨g, 0, none⟩) n cap) n cs) : ∃ cur, W.heap[g]? = some (.cells cur e (0, 0)) := by
  rcases h.2 with ⟨h2, _⟩ | ⟨g', cap', cur, hv, h1, hh, _⟩
  · cases h2
  · injection hv with e1 e2 e3
    injection e1 with e4
    injection e4 with e5
    subst e5
    exact ⟨cur, hh⟩
theorem Half.step {w0 W wc : World} {B gl n cap i : Nat} {xs : List S61} (h : Half w0 B W gl n cap xs i) (hi : i < n) {x : S61} (hx : xs[i]? = some x) (hBW : B ≤ W.heap.size) (hb : Below W.heap.size W wc) {Av : Option Addr} {cv : Nat} (hR : (Kd.int .i64).R 3 wc W.heap.size (fun _ => True) (.slice Av x.f3.length cv) x.f3) :
    Half w0 B (wc.setCell ⟨gl, i * 6 + 3, none⟩ (.slice Av x.f3.length cv)) gl n cap xs (i + 1) := by
  obtain ⟨cs, vs, hrow, hn, hcl, hvl, hch, hown, hin, hgl, hne⟩ := h
  have hrow' := ownsRow_on hrow hb
  obtain ⟨cur, hcur⟩ := row_heap hrow'
  have hglW : gl < W.heap.size := by
    obtain ⟨c2, h2⟩ := row_heap hrow
    exact (Array.getElem?_eq_some_iff.1 h2).1
  have keepR : ∀ {u : Value} {f : List Int} {b : Nat}, (Kd.int .i64).R 3 wc b (fun _ => True) u f → (Kd.int .i64).R 3 (wc.setCell ⟨gl, i * 6 + 3, none⟩ (.slice Av x.f3.length cv)) b (fun _ => True) u f := fun hr => Kd.R_set hr hcur (by decide) _ _
  have old : ∀ (j : Nat) (u : Value), j ≠ i → (vs.set i (.slice Av x.f3.length cv))[j]? = some u → vs[j]? = some u := fun j u hj hu => by
    rw [List.getElem?_set, if_neg (fun e => hj e.symm)] at hu
    exact hu
  have new : ∀ (u : Value), (vs.set i (.slice Av x.f3.length cv))[i]? = some u → u = .slice Av x.f3.length cv := fun u hu => by
    rw [List.getElem?_set, if_pos rfl, if_pos (by omega)] at hu
    exact (Option.some.inj hu).symm
  have blk : ∀ (j : Nat) (u : Value) (k : Nat), j < i → vs[j]? = some u → u.ownBlock = some k → k < W.heap.size := fun j u k hj hu hk => by
    have hjl : j < xs.length := by omega
    exact (own_lt (hown j _ u hj (List.getElem?_eq_getElem hjl) hu) hk).2
  refine ⟨cs.set (i * 6 + 3) (.slice Av x.f3.length cv), vs.set i (.slice Av x.f3.length cv), ownsRow_put hrow' _, hn, by rw [List.length_set]; exact hcl, by rw [List.length_set]; exact hvl, ?_, ?_, ?_, ?_, ?_⟩
  · intro j y u hy hu
    by_cases hj : j = i
    · subst hj
      rw [hx] at hy
      obtain rfl := Option.some.inj hy
      have hvj : vs[j]? = some vs[j] := List.getElem?_eq_getElem (by omega)
      rw [chunk_set _ _ _ _ _ _ (hch j _ _ hx hvj), if_pos rfl, new u hu]
    · rw [chunk_set _ _ _ _ _ _ (hch j y u hy (old j u hj hu)), if_neg (fun e => hj e.symm)]
  · intro j y u hj hy hu
    by_cases hji : j = i
    · subst hji
      rw [hx] at hy
      obtain rfl := Option.some.inj hy
      rw [new u hu]
      exact Kd.R_lower (keepR hR) hBW
    · exact keepR (Kd.R_below (hown j y u (by omega) hy (old j u hji hu)) hb)
  · intro j y u hj hy hu
    exact hin j y u (by omega) hy (old j u (by omega) hu)
  · intro j u k hj hu hk
    by_cases hji : j = i
    · subst hji
      rw [new u hu] at hk
      have := (own_lt hR hk).1
      omega
    · exact hgl j u k (by omega) (old j u hji hu) hk
  · intro j j' u u' hj hj' hjj hu hu'
    cases hk : u.ownBlock with
    | none => exact .inl rfl
    | some k =>
      refine .inr fun e => ?_
      have hk' : u'.ownBlock = some k := e.symm
      by_cases hji : j = i
      · subst hji
        rw [new u hu] at hk
        have h1 := (own_lt hR hk).1
        have h2 := blk j' u' k (by omega) (old j' u' (fun e => hjj e.symm) hu') hk'
        omega
      · by_cases hji' : j' = i
        · subst hji'
          rw [new u' hu'] at hk'
          have h1 := (own_lt hR hk').1
          have h2 := blk j u k (by omega) (old j u hji hu) hk
          omega
        · rcases hne j j' u u' (by omega) (by omega) hjj (old j u hji hu) (old j' u' hji' hu') with h1 | h1
          · rw [h1] at hk; cases hk
          · exact h1 (hk.trans hk'.symm)
theorem Half.done {w0 W : World} {B gl n cap : Nat} {xs : List S61} (h : Half w0 B W gl n cap xs n) : Kd.S k61 61 W B (fun _ => True) (.slice (some ⟨gl, 0, none⟩) n cap) xs := by
  obtain ⟨cs, vs, hrow, hn, hcl, hvl, hch, hown, hin, hgl, hne⟩ := h
  have lt : ∀ (j : Nat) (u : Value), vs[j]? = some u → j < n := fun j u hu => by
    have := (List.getElem?_eq_some_iff.1 hu).1
    omega
  rw [hn] at hrow hcl hvl
  refine S_of (vs := vs) (by rw [hn]; exact hrow) hcl hvl hch (fun j x u hx hu => hown j x u (lt j u hu) hx hu) (fun i j u u' hu hu' hij => hne i j u u' (lt i u hu) (lt j u' hu') hij hu hu') (fun j u hu => ?_)
  cases hk : u.ownBlock with
  | none => exact .inl rfl
  | some k =>
    refine .inr fun e => ?_
    have h1 := hgl j u k (lt j u hu) hu hk
    have h2 : some k = some gl := e
    exact h1 (Option.some.inj h2)
end Go.Proofs.Ytcifbemppbegbaa.Q

/- Layer 10: own's loop: where it begins. -/
namespace Go.Proofs.Ytcifbemppbegbaa.Q
open Go.RowKit Go.Proofs.YtcifbemppbegbaaW.PrintWords Go.Proofs.YtcifbemppbegbaaW.PrintMore Go.Proofs.YtcifbemppbegbaaW.PrintLast
set_option linter.unusedVariables false
set_option linter.unusedSimpArgs false
theorem chunk_at {cs : List Value} {j : Nat} {a0 a1 a2 a3 a4 a5 : Value} (hc : (cs.drop (j * 6)).take 6 = [a0, a1, a2, a3, a4, a5]) : cs[j * 6 + 3]? = some a3 := by
  have h := congrArg (fun l : List Value => l[3]?) hc
  simp only [List.getElem?_take, List.getElem?_drop] at h
  simpa using h
theorem Half.start {wc W : World} {B gl n cap : Nat} {xs : List S61} {cs : List Value} (hrow : W.ownsRow B 61 6 (.slice (some ⟨gl, 0, none⟩) n cap) n cs) (hr : Reps (k61.K wc) 6 xs cs) (hn : n = xs.length) : Half wc B W gl n cap xs 0 := by
  have vat : ∀ (j : Nat) (u : Value), ((List.range n).map fun j => cs.getD (j * 6 + 3) (.int .i64 0))[j]? = some u → u = cs.getD (j * 6 + 3) (.int .i64 0) := fun j u hu => by
    rw [List.getElem?_map, Option.map_eq_some_iff] at hu
    obtain ⟨k, hk, rfl⟩ := hu
    have : k = j := by
      rw [List.getElem?_range (by have := (List.getElem?_eq_some_iff.1 hk).1; simpa using this)] at hk
      exact (Option.some.inj hk).symm
    rw [this]
  refine ⟨cs, (List.range n).map fun j => cs.getD (j * 6 + 3) (.int .i64 0), hrow, hn, by rw [hn]; exact hr.1, by simp, ?_, fun j _ _ hj => absurd hj (by omega), ?_, fun j _ _ hj => absurd hj (by omega), fun j _ _ _ hj => absurd hj (by omega)⟩
  · intro j x u hx hu
    obtain ⟨A, c, hc, _, _⟩ := k61_open (hr.2 j x hx)
    have h3 := chunk_at hc
    have : u = .slice A x.f3.length c := by
      rw [vat j u hu, List.getD_eq_getElem?_getD, h3]
      rfl
    rw [this]
    exact hc
  · intro j x u _ hx hu
    obtain ⟨A, c, hc, hle, hC⟩ := k61_open (hr.2 j x hx)
    have h3 := chunk_at hc
    refine ⟨A, c, ?_, hle, hC⟩
    rw [vat j u hu, List.getD_eq_getElem?_getD, h3]
    rfl
/-- The claims' cell of lane i, as the loop finds it. -/
theorem Half.cell {w0 W : World} {B gl n cap i : Nat} {xs : List S61} (h : Half w0 B W gl n cap xs i) (hi : i < n) {x : S61} (hx : xs[i]? = some x) : ∃ A c, W.cell? ⟨gl, i * 6 + 3, none⟩ = some (.slice A x.f3.length c) ∧ x.f3.length ≤ c ∧ (Kd.int .i64).C w0 A x.f3.length x.f3 := by
  obtain ⟨cs, vs, hrow, hn, hcl, hvl, hch, hown, hin, hgl, hne⟩ := h
  have hv : vs[i]? = some vs[i] := List.getElem?_eq_getElem (by omega)
  obtain ⟨A, c, hu, hle, hC⟩ := hin i x _ (Nat.le_refl _) hx hv
  have h3 := chunk_at (hch i x _ hx hv)
  rw [hu] at h3
  refine ⟨A, c, ?_, hle, hC⟩
  exact (hrow.cellAt (i * 6 + 3) (by omega)).trans h3
end Go.Proofs.Ytcifbemppbegbaa.Q

/- Layer 10: rows that stand beside a block that grows or is written. -/
namespace Go.Proofs.Ytcifbemppbegbaa.Q
open Go.RowKit Go.Proofs.YtcifbemppbegbaaW.PrintWords Go.Proofs.YtcifbemppbegbaaW.PrintMore Go.Proofs.YtcifbemppbegbaaW.PrintLast
set_option linter.unusedVariables false
set_option linter.unusedSimpArgs false
theorem ownsRow_grown {W W1 : World} {b e s n gm : Nat} {v : Value} {xs : List Value} {cells : Array Value} {t : TypeId} (h : W.ownsRow b e s v n xs) (hm : W.heap[gm]? = some (.cells cells t (0, 0))) (hte : t ≠ e) (hg : W.grownBy W1 (some gm)) : W1.ownsRow b e s v n xs := by
  refine ⟨h.1, ?_⟩
  rcases h.2 with h2 | ⟨g, cap, cur, rfl, h1, hq, h3⟩
  · exact .inl h2
  · have hne : g ≠ gm := fun e_ => by
      rw [e_] at hq
      have h4 := hm.symm.trans hq
      simp at h4
      exact hte h4.2
    exact .inr ⟨g, cap, cur, rfl, h1, (hg.block g (Array.getElem?_eq_some_iff.1 hq).1 (fun e_ => hne (Option.some.inj e_))).trans hq, h3⟩
/-- What the loop of own keeps, besides the lanes' row. -/
structure OwnKeep (w2 W : World) (gx gm : Nat) (V : Value) (l1 : List S40) : Prop where
  box : W.heap[gx]? = some (.cells #[V, .slice (some ⟨gm, 0, none⟩) l1.length l1.length] 25 (0, 0))
  msgs : k40.R 40 W w2.heap.size (fun _ => True) (.slice (some ⟨gm, 0, none⟩) l1.length l1.length) l1
  below : Below w2.heap.size w2 W
/-- A round keeps it: the store goes into the lanes' row. -/
theorem OwnKeep.step {w2 W wc : World} {gx gm gl k : Nat} {V u : Value} {l1 : List S40} {cells : Array Value} (h : OwnKeep w2 W gx gm V l1) (hb : Below W.heap.size W wc) (hl : wc.heap[gl]? = some (.cells cells 61 (0, 0))) (hgl : w2.heap.size ≤ gl) : OwnKeep w2 (wc.setCell ⟨gl, k, none⟩ u) gx gm V l1 := by
  have hx := heap_on h.box hb
  have hne : gx ≠ gl := fun e_ => by
    rw [e_] at hx
    have h4 := hl.symm.trans hx
    simp at h4
  refine ⟨(Below.heap_setCell wc ⟨gl, k, none⟩ u gx hne).trans hx, Kd.R_set (Kd.R_below h.msgs hb) hl (by decide) k u, ?_⟩
  exact (vbelow_step h.below hb).setCell (p := ⟨gl, k, none⟩) hgl u
end Go.Proofs.Ytcifbemppbegbaa.Q

/- Layer 10: lanes that are the call's own, where other blocks are written or laid. -/
namespace Go.Proofs.Ytcifbemppbegbaa.Q
open Go.RowKit Go.Proofs.YtcifbemppbegbaaW.PrintWords Go.Proofs.YtcifbemppbegbaaW.PrintMore Go.Proofs.YtcifbemppbegbaaW.PrintLast
set_option linter.unusedVariables false
set_option linter.unusedSimpArgs false
theorem Half.full {w0 w0' W : World} {B B' gl n cap : Nat} {xs : List S61} (h : Half w0 B W gl n cap xs n) (hB : B' ≤ B) : Half w0' B' W gl n cap xs n := by
  obtain ⟨cs, vs, hrow, hn, hcl, hvl, hch, hown, hin, hgl, hne⟩ := h
  refine ⟨cs, vs, ownsRow_down hrow hB, hn, hcl, hvl, hch, fun j x u hj hx hu => Kd.R_lower (hown j x u hj hx hu) hB, fun j x u hj hx hu => ?_, hgl, hne⟩
  have := (List.getElem?_eq_some_iff.1 hu).1
  omega
theorem Half.other {w0 W : World} {B gl n cap i : Nat} {xs : List S61} (h : Half w0 B W gl n cap xs i) {g t : Nat} {cells : Array Value} (hg : W.heap[g]? = some (.cells cells t (0, 0))) (h1 : t ≠ 61) (h2 : t ≠ 3) (j : Nat) (u : Value) : Half w0 B (W.setCell ⟨g, j, none⟩ u) gl n cap xs i := by
  obtain ⟨cs, vs, hrow, hn, hcl, hvl, hch, hown, hin, hgl, hne⟩ := h
  refine ⟨cs, vs, ownsRow_set hrow hg h1 j u, hn, hcl, hvl, hch, fun j x u hj hx hu => Kd.R_set (hown j x u hj hx hu) hg (fun q hq => by rcases List.mem_cons.1 hq with rfl | hq; (exact fun e => h2 e.symm); cases hq) _ _, hin, hgl, hne⟩
theorem Half.on {w0 W W' : World} {B gl n cap i : Nat} {xs : List S61} (h : Half w0 B W gl n cap xs i) (hb : Below W.heap.size W W') : Half w0 B W' gl n cap xs i := by
  obtain ⟨cs, vs, hrow, hn, hcl, hvl, hch, hown, hin, hgl, hne⟩ := h
  exact ⟨cs, vs, ownsRow_on hrow hb, hn, hcl, hvl, hch, fun j x u hj hx hu => Kd.R_below (hown j x u hj hx hu) hb, hin, hgl, hne⟩
end Go.Proofs.Ytcifbemppbegbaa.Q
