/- Layer 1: a relation turned around. -/
import Derived.Test.YtlbjcmiegbejdaaB7
namespace Go.Proofs.Ytlbjcmiegbejdaa.Q
open Go.RowKit Go.Shelf
attribute [local go_sem] Oper.semAt_some
set_option linter.unusedVariables false
set_option linter.unusedSimpArgs false
open Go.Proofs.YtlbjcmiegbejdaaW.PrintWords Go.Proofs.YtlbjcmiegbejdaaW.PrintMore
open Go.Proofs.Ytlbjcmiegbejdaa.Bm
/-- The marks of loops over iterators that are over: each names a block of its own, from B on and below U, without deferred calls. -/
def Marks (B U : Nat) (W : World) : List Deferred → Prop
  | [] => True
  | d :: ds => ∃ D, d = { target := .collected D, args := #[] } ∧ B ≤ D ∧ D < U ∧ W.heap[D]? = some (.deferred (some [])) ∧ (∀ d' ∈ ds, d' ≠ { target := .collected D, args := #[] }) ∧ Marks B U W ds
theorem Marks.imp {B U U' : Nat} {W W' : World} (hU : U ≤ U') (h : ∀ D, D < U → W.heap[D]? = some (.deferred (some [])) → W'.heap[D]? = some (.deferred (some []))) : ∀ {ds : List Deferred}, Marks B U W ds → Marks B U' W' ds
  | [], _ => trivial
  | _ :: _, ⟨D, e, hB, hD, hh, hn, hr⟩ => ⟨D, e, hB, Nat.lt_of_lt_of_le hD hU, h D hD hh, hn, Marks.imp hU h hr⟩
theorem Marks.below {B U : Nat} {W : World} : ∀ {ds : List Deferred}, Marks B U W ds → ∀ d ∈ ds, ∃ D, D < U ∧ d = { target := .collected D, args := #[] }
  | d :: ds, ⟨D, e, _, hD, _, _, hr⟩, x, hx => by
    rcases List.mem_cons.1 hx with rfl | hx
    · exact ⟨D, hD, e⟩
    · exact hr.below x hx
theorem Marks.own {β : Type} (B U : Nat) {V : Nat} (hV : U ≤ V) (ds : List Deferred) : OwnFrom V (fun (_ : β) W => Marks B U W ds) := fun _ X Y row hs hg hr =>
  hs.imp (Nat.le_refl _) fun D hD hh => (hg.block D (Array.getElem?_eq_some_iff.1 hh).1 (fun e => by have := (hr D e.symm).1; omega)).trans hh
/-- Only blocks from B on that are no cells have turned. -/
structure Turned (B : Nat) (W W' : World) : Prop where
  os : W'.os = W.os
  tape : W'.tape = W.tape
  output : W'.output = W.output
  size : W'.heap.size = W.heap.size
  low : ∀ k, k < B → W'.heap[k]? = W.heap[k]?
  cells : ∀ (k : Nat) (o : Obj), W.heap[k]? = some o → o.isCells = true → W'.heap[k]? = some o
theorem Turned.refl (B : Nat) (W : World) : Turned B W W := ⟨rfl, rfl, rfl, rfl, fun _ _ => rfl, fun _ _ h _ => h⟩
theorem Turned.trans {B : Nat} {X Y Z : World} (h : Turned B X Y) (k : Turned B Y Z) : Turned B X Z := ⟨k.os.trans h.os, k.tape.trans h.tape, k.output.trans h.output, k.size.trans h.size, fun i hi => (k.low i hi).trans (h.low i hi), fun i o hi ho => k.cells i o (h.cells i o hi ho) ho⟩
theorem Turned.put {B D : Nat} {W : World} (hB : B ≤ D) (h : W.heap[D]? = some (.deferred (some []))) : Turned B W (W.putObj D (.deferred none)) :=
  ⟨rfl, rfl, rfl, World.putObj_size, fun k hk => World.putObj_heap_other (by omega), fun k o hk ho => by
    have hne : k ≠ D := fun e => by subst e; rw [h] at hk; cases hk; cases ho
    rw [World.putObj_heap_other hne]; exact hk⟩
theorem Turned.below {B : Nat} {w W W' : World} (h : Below B w W) (t : Turned B W W') : Below B w W' :=
  h.trans ⟨t.os, t.tape, t.output, Nat.le_of_eq t.size.symm, t.low⟩
theorem Turned.owns {B base : Nat} {W W' : World} {e : TypeId} {size n : Nat} {v : Value} {xs : List Value} (t : Turned B W W') (h : W.ownsRow base e size v n xs) : W'.ownsRow base e size v n xs := by
  refine ⟨h.1, ?_⟩
  rcases h.2 with h0 | ⟨g, cap, cur, e1, e2, e3, r⟩
  · exact .inl h0
  · exact .inr ⟨g, cap, cur, e1, e2, t.cells g _ e3 rfl, r⟩
/-- A function leaves with such marks. -/
theorem leave_marks {F : Fence} {n : Nat} {P : Program} {fn : Func} {tmps : Array Value} {R : Ending → World → Prop} {B U : Nat} : ∀ (ds : List Deferred) (W : World), Marks B U W ds →
    (∀ W', Turned B W W' → ∃ v, (results fn tmps).run P W' = .ok v W' ∧ R (.returned v) W') → LeavesInM F n P fn tmps R ds .returning W
  | [], W, _, h => h W (Turned.refl B W)
  | d :: ds, W, ⟨D, e, hB, hD, hh, hn, hr⟩, h => by
    subst e
    refine ⟨by simp, .inl ⟨D, _, rfl, run_takeDeferred hh, ?_⟩⟩
    refine leave_marks ds _ (U := U) ?_ fun W' hW' => h W' ((Turned.put hB hh).trans hW')
    have : ∀ ds', (∀ d' ∈ ds', d' ≠ ({ target := .collected D, args := #[] } : Deferred)) → Marks B U W ds' → Marks B U (W.putObj D (.deferred none)) ds' := by
      intro ds'
      induction ds' with
      | nil => exact fun _ _ => trivial
      | cons d' ds' ih =>
        rintro hne ⟨D', e', hB', hD', hh', hn', hr'⟩
        refine ⟨D', e', hB', hD', ?_, hn', ih (fun x hx => hne x (List.mem_cons_of_mem _ hx)) hr'⟩
        have hDD : D' ≠ D := fun q => hne d' (List.mem_cons_self ..) (by rw [e', q])
        rw [World.putObj_heap_other hDD]; exact hh'
    exact this ds hn hr
section
variable {P : Program} {F : Fence} {n : Nat} {ops : Array Oper} {md : Region.Mode} {Q : Exit → Act → World → Prop}
/-- A region without a defer statement is walked in a round as outside of it. -/
theorem opIn_round {l : Nat} (hro : F.round = none) {o : Oper} (hd : ∀ c, o.op ≠ .defer c) {a : Act} {w : World} {K : Act → World → Prop} (h : Oper.wpIn F n P o a w K Q) : Oper.wpIn (F.inRound l) n P o a w K Q := by
  unfold Oper.wpIn at *
  rw [Oper.semAt_plain F _ _ hd] at h
  rw [Oper.semAt_plain (F.inRound l) _ _ hd]
  exact h
theorem anyIn_round {l : Nat} (hro : F.round = none) (hd : ∀ (j : Nat) (o : Oper) c, ops[j]? = some o → o.op ≠ .defer c) : ∀ (fuel : Nat) (listed : Array Bool) (a : Act) (w : World), wpAnyIn F n P md ops Q fuel listed a w → wpAnyIn (F.inRound l) n P md ops Q fuel listed a w
  | 0, _, _, _, h => h
  | fuel + 1, listed, a, w, h => by
    refine ⟨h.1, fun i hi => ?_⟩
    have h1 := wpOpIn_mono (fun a' w' h' => anyIn_round (l := l) hro hd fuel (listed.setIfInBounds i true) a' w' h') (h.2 i hi)
    unfold wpOpIn at *
    cases ho : ops[i]? with
    | none =>
      simp only [ho] at h1 ⊢
      exact h1
    | some o =>
      simp only [ho] at h1 ⊢
      split
      · rename_i hw
        rw [if_pos hw] at h1
        exact opIn_round hro (hd i o · ho) h1
      · rename_i hw
        rw [if_neg hw] at h1
        exact h1
theorem Marks.store {B U : Nat} {W : World} {ds : List Deferred} (h : Marks B U W ds) {b n : Nat} {R : Nat → Nat} (hm : MatAt W b R n) (o : Nat) (u : Value) : Marks B U (W.setCell ⟨b, o, none⟩ u).drew ds :=
  h.imp (W' := (W.setCell ⟨b, o, none⟩ u).drew) (Nat.le_refl _) fun D hD hh => (Below.heap_setCell W ⟨b, o, none⟩ u D (fun e => by subst e; rw [show W.heap[D]? = _ from hm] at hh; cases hh)).trans hh
theorem boxed_at {W : World} {B B' : Nat} {t : TypeId} {v : Value} (h : Boxed W B t v) (hne : B ≠ B') (o : Nat) (u : Value) : Boxed (W.setCell ⟨B', o, none⟩ u) B t v := (Below.heap_setCell W ⟨B', o, none⟩ u B hne).trans h
def noDefer (ops : Array Oper) : Bool := ops.all fun o => match o.op with | .defer _ => false | _ => true
theorem noDefer_spec (h : noDefer ops = true) (j : Nat) (o : Oper) (c : Call) (hj : ops[j]? = some o) : o.op ≠ .defer c := by
  intro e
  have h1 := Array.all_eq_true_iff_forall_mem.1 h o (Array.mem_of_getElem? hj)
  simp [e] at h1
end
section
variable {P : Program} {F : Fence} {n : Nat}
theorem wpListIn_load_mid {ops : Array Oper} {rest : List Oper} {op : Oper} {a : Act} {w : World} {Q : Exit → Act → World → Prop} (hgd : op.guard = none) (ty : TypeId) (x : Operand) (ho : op.op = .load ty x)
    (b o : Nat) (hx : a.eval x = .pointer (some ⟨b, o, none⟩)) (cs : List Value) (d : TypeDesc) (hc : w.rangeAt b o cs)
    (hu : P.underlying ty = some d) (hd : d.isRow = true) (hi : (P.info? ty).map (·.size) = some cs.length)
    (h : wpListIn F n P ops Q rest (a.put op.dst (.agg cs.toArray)) w) : wpListIn F n P ops Q (op :: rest) a w := by
  refine wpListIn_plain hgd fun K hK => ?_
  unfold Oper.wpIn
  refine ⟨?_, ?_⟩
  · simp [Oper.about, ho, Sem.run_pure]
  · rw [Oper.semAt_plain F _ _ (by rw [ho]; intro c hc'; cases hc')]
    unfold execOp
    simp only [ho, hx, Instr.loadAt, Instr.sureAddr, Sem.run_bind, Sem.run_pure, Result.andThen_ok, run_loadVar_mid w b o ty cs d hc hu hd hi]
    exact hK _ _ h
theorem wpListIn_store_mid {ops : Array Oper} {rest : List Oper} {op : Oper} {a : Act} {w : World} {Q : Exit → Act → World → Prop} (hgd : op.guard = none) (ty : TypeId) (x y : Operand) (ho : op.op = .store ty x y)
    (b o : Nat) (cells : Array Value) (hx : a.eval x = .pointer (some ⟨b, o, none⟩)) (hy : a.eval y = .agg cells)
    (ht : w.there b o cells.size) (hi : (P.info? ty).map (·.size) = some cells.size) (h1 : cells.all (·.oneCell') = true)
    (h : wpListIn F n P ops Q rest (a.put op.dst undef) (w.setCells b o cells.toList)) : wpListIn F n P ops Q (op :: rest) a w := by
  refine wpListIn_plain hgd fun K hK => ?_
  unfold Oper.wpIn
  refine ⟨?_, ?_⟩
  · simp [Oper.about, ho, Sem.run_pure]
  · rw [Oper.semAt_plain F _ _ (by rw [ho]; intro c hc'; cases hc')]
    unfold execOp
    simp only [ho, hx, hy, Instr.storeAt, Instr.sureAddr, Sem.run_bind, Sem.run_pure, Result.andThen_ok, run_storeVar_mid w b o ty cells ht hi h1]
    exact hK _ _ h
end
/-- The turned relation's rows, the first k rows taken. -/
def turnK (R : Nat → Nat) (k : Nat) : Nat → Nat := fun j => ofP (fun x => (R x).testBit j) k
/-- The same, with some of row k's members taken. -/
def turnP (R : Nat → Nat) (k : Nat) (pre : List (Fin 64)) : Nat → Nat := fun j => if j ∈ pre.map (fun x => x.val) then turnK R k j ||| 2 ^ k else turnK R k j
theorem turnP_nil (R : Nat → Nat) (k : Nat) : turnP R k [] = turnK R k := by funext j; simp [turnP]
theorem turnP_snoc (R : Nat → Nat) (k : Nat) (pre : List (Fin 64)) (x : Fin 64) : upd (turnP R k pre) x.val (turnP R k pre x.val ||| 2 ^ k) = turnP R k (pre ++ [x]) := by
  funext j
  unfold upd turnP
  rw [List.map_append, List.map_singleton]
  by_cases h : j = x.val
  · subst h
    rw [if_pos rfl]
    have hin : x.val ∈ pre.map (fun x => x.val) ++ [x.val] := List.mem_append_right _ (List.mem_singleton.2 rfl)
    by_cases hm : x.val ∈ pre.map (fun x => x.val)
    · rw [if_pos hm, if_pos hin, Nat.or_assoc, Nat.or_self]
    · rw [if_neg hm, if_pos hin]
  · rw [if_neg h]
    by_cases hm : j ∈ pre.map (fun x => x.val)
    · rw [if_pos hm, if_pos (List.mem_append_left _ hm)]
    · rw [if_neg hm, if_neg (by rw [List.mem_append, List.mem_singleton]; rintro (h' | h'); exact hm h'; exact h h')]
theorem turnP_end (R : Nat → Nat) (k : Nat) (j : Nat) (hj : j < 64) : turnP R k (pfx (R k) 64) j = turnK R (k + 1) j := by
  unfold turnP
  rw [pfx_val (R k) 64 (Nat.le_refl _)]
  have hlt := ofP_lt (fun x => (R x).testBit j) k
  cases hb : (R k).testBit j
  · rw [if_neg (by simp [hb])]
    simp [turnK, ofP, hb]
  · rw [if_pos (by simp [hb, hj])]
    simp only [turnK, ofP, hb, if_true]
    exact (add_two_pow_or hlt).symm
theorem turnK_lt (R : Nat → Nat) {k : Nat} (hk : k ≤ 64) (j : Nat) : turnK R k j < 2 ^ 64 := Nat.lt_of_lt_of_le (ofP_lt _ k) (Nat.pow_le_pow_right (by decide) hk)
theorem turnP_lt (R : Nat → Nat) {k : Nat} (hk : k < 64) (pre : List (Fin 64)) (j : Nat) : turnP R k pre j < 2 ^ 64 := by
  unfold turnP
  split
  · exact Nat.or_lt_two_pow (turnK_lt R (by omega) j) (Nat.pow_lt_pow_right (by decide) hk)
  · exact turnK_lt R (by omega) j
theorem turnK_zero (R : Nat → Nat) : turnK R 0 = fun _ => 0 := by funext j; rfl
theorem MatAt.ext {W : World} {b n : Nat} {R S : Nat → Nat} (h : MatAt W b R n) (e : ∀ i, i < 64 → R i = S i) : MatAt W b S n := by
  unfold MatAt at *
  rw [← mcells_ext e n]
  exact h
def bits_Turn.f (l : List Int) : Option (List Int × Int) := if okUb l then (if (ofR l).2.2 = 0 then some (rowsI (turnK (rowsF l) l.length) l.length, 0) else some ([], (ofR l).2.2)) else none
set_option maxRecDepth 100000 in
set_option maxHeartbeats 2000000 in
theorem bits_Turn.calls (A0 : Option Addr) (c0 : Nat) (l0 : List Int) (r1 : List Int) (r2 : Int) (w : World) (hr0 : Kd.C (Kd.int .u64) w A0 l0.length l0) (hc0 : l0.length ≤ c0) (h : bits_Turn.f l0 = some (r1, r2)) :
    Calls Try.prog 74 #[.slice A0 l0.length c0] w fun e w' => ∃ v0_ : Value, e = .returned (.tuple #[v0_, .int .i64 r2]) ∧ Kd.R (Kd.int .u64) 33 w' w.heap.size (fun _ => True) v0_ r1 ∧ Below w.heap.size w w' := by
  unfold bits_Turn.f at h
  split at h
  next hk =>
    have hlU := okU_of hk
    have hof := of_calls A0 c0 l0 hlU w hr0 hc0
    obtain ⟨R, n, e, hF⟩ : ∃ R n e, ofR l0 = (R, n, e) := ⟨_, _, _, rfl⟩
    obtain ⟨hn, hR, hE⟩ := ofR_ok hlU hF
    rw [hF] at h hof
    dsimp only at h hof
    have HO := Lib.hid hof
    have hzM := zeroM
    clear hof hF hr0 hk hlU
    by_cases he : e = 0
    · subst he
      obtain ⟨rfl, rfl, -⟩ := hE rfl
      rw [if_pos rfl] at h
      simp only [Option.some.injEq, Prod.mk.injEq] at h
      obtain ⟨rfl, rfl⟩ := h
      have ht : ((0 : Int) != 0) = false := by decide
      have HR := Lib.hid hR
      clear hR hE
      obtain ⟨m, hm⟩ : ∃ m, 9 ≤ m := ⟨9, Nat.le_refl _⟩
      refine (callsIn_wide (n := m)).1 ?_
      obtain ⟨F, hF⟩ : ∃ F, F = Fence.wide := ⟨_, rfl⟩
      have hro : F.round = none := by rw [hF]; rfl
      have hfT : F.fn 74 := by rw [hF]; trivial
      have hfa : F.fn 71 := by rw [hF]; trivial
      have hf1 : F.fn 77 := by rw [hF]; trivial
      have hfh : F.fn 76 := by rw [hF]; trivial
      have hfo : F.fn 75 := by rw [hF]; trivial
      have hfof : F.fn 67 := by rw [hF]; trivial
      have hfl : F.fn 69 := by rw [hF]; trivial
      have hof := fun n_ => (callsIn_wide (n := n_)).2 HO.out
      have hli := fun n_ W => (callsIn_wide (n := n_)).2 (mlist (turnK (rowsF l0) l0.length) l0.length hn W)
      rw [← hF] at hof hli ⊢
      have HOF := Lib.hid hof
      have HL := Lib.hid hli
      clear hof hli hF
      have h1 : 1 ≤ m := by omega
      refine callsIn_of_wp_marks Try.func74 rfl hfT ?_ hro
      simp only [Try.ntmps74, List.size_toArray, List.length_cons, List.length_nil, Nat.reduceAdd, Nat.reduceSub, Array.replicate_succ, Array.replicate_zero, List.push_toArray, List.append_toArray, List.nil_append, List.cons_append]
      gi_wp2_with (first | (gi_at_call 67; refine (HOF.out _).mono ?_; rintro e_ w1 ⟨rfl, hb1⟩; have Z1 := MatAt.new w1 (fun _ => 0) 0) | ((with_reducible refine wpListIn_store_mid rfl 83 (.tmp 4) (.tmp 12) rfl (w1.heap.size) 0 (mcells (rowsF l0) l0.length).toArray rfl rfl (by simpa [mcells_len] using (Z1).there) (by simpa using infoM _ _) (all_oneCell_toArray (mcells_one _ _)) ?_); have M2 := Z1.store (S := rowsF l0) (m := l0.length); have hB2 : Below w.heap.size w ((w1.alloc (.cells (mcells (fun _ => 0) 0).toArray 83)).setCells w1.heap.size 0 (mcells (rowsF l0) l0.length)) := below_setCells (vbelow_alloc' hb1 _) (by simp; exact Nat.le_succ_of_le hb1.size) hb1.size _ _; obtain ⟨W2, hW2⟩ : ∃ W2, W2 = (w1.alloc (.cells (mcells (fun _ => 0) 0).toArray 83)).setCells w1.heap.size 0 (mcells (rowsF l0) l0.length) := ⟨_, rfl⟩; rw [← hW2] at M2 hB2 ⊢; clear hW2 Z1; have hnum := M2.num; have hlt2 := M2.lt; have Z3 := MatAt.new W2 (fun _ => 0) 0; have hset := mcells_setn (fun _ => 0) 0 l0.length) | ((with_reducible refine wpListIn_store_mid rfl 83 (.tmp 6) (.tmp 19) rfl (W2.heap.size) 0 (mcells (fun _ => 0) l0.length).toArray rfl rfl (by simpa [mcells_len] using (Z3).there) (by simpa using infoM _ _) (all_oneCell_toArray (mcells_one _ _)) ?_); have T4 := Z3.store (S := fun _ => 0) (m := l0.length); have M4 : MatAt ((W2.alloc (.cells (mcells (fun _ => 0) 0).toArray 83)).setCells W2.heap.size 0 (mcells (fun _ => 0) l0.length)) w1.heap.size (rowsF l0) l0.length := MatAt.apart (M2.alloc _) (by omega) _ _; have hB4 : Below w.heap.size w ((W2.alloc (.cells (mcells (fun _ => 0) 0).toArray 83)).setCells W2.heap.size 0 (mcells (fun _ => 0) l0.length)) := below_setCells (vbelow_alloc' hB2 _) (by simp; exact Nat.le_succ_of_le hB2.size) hB2.size _ _; have hs4 : W2.heap.size < ((W2.alloc (.cells (mcells (fun _ => 0) 0).toArray 83)).setCells W2.heap.size 0 (mcells (fun _ => 0) l0.length)).heap.size := T4.lt; obtain ⟨W4, hW4⟩ : ∃ W4, W4 = (W2.alloc (.cells (mcells (fun _ => 0) 0).toArray 83)).setCells W2.heap.size 0 (mcells (fun _ => 0) l0.length) := ⟨_, rfl⟩; rw [← hW4] at M4 T4 hB4 hs4 ⊢; clear hW4 Z3 hset M2 hnum; have hnum := M4.num))
      clear hzM HO HOF ht hnum
      have hb1s := hb1.size
      have hB2s := hB2.size
      clear hB2 hb1
      refine wpIn_loop (fun a' W => ∃ (k : Nat) (u7 u8 u23 u24 u25 u26 u27 u28 u29 u30 u31 u32 u33 u34 u35 u36 u37 u38 u39 u40 : Value) (ds : List Deferred), k ≤ l0.length ∧ a' = { tmps := (List.toArray ((.slice A0 l0.length c0 : Value) :: undef :: (.slice none 0 0 : Value) :: (.int .i64 0 : Value) :: (.pointer (some ⟨w1.heap.size, 0, none⟩) : Value) :: (.int .i64 0 : Value) :: (.pointer (some ⟨W2.heap.size, 0, none⟩) : Value) :: u7 :: u8 :: (.tuple #[.agg (mcells (rowsF l0) l0.length).toArray, .int .i64 0] : Value) :: (.slice A0 l0.length c0 : Value) :: (.tuple #[.agg (mcells (rowsF l0) l0.length).toArray, .int .i64 0] : Value) :: (.agg (mcells (rowsF l0) l0.length).toArray : Value) :: (.int .i64 0 : Value) :: (.int .i64 0 : Value) :: (.bool false : Value) :: undef :: (.pointer (some ⟨w1.heap.size, 64, none⟩) : Value) :: (.int .i64 ((l0.length : Nat) : Int) : Value) :: (.agg (mcells (fun _ => 0) l0.length).toArray : Value) :: (.pointer (some ⟨w1.heap.size, 64, none⟩) : Value) :: (.int .i64 ((l0.length : Nat) : Int) : Value) :: (.int .i64 ((k : Nat) : Int) : Value) :: u23 :: u24 :: u25 :: u26 :: u27 :: u28 :: u29 :: u30 :: u31 :: u32 :: u33 :: u34 :: u35 :: u36 :: u37 :: u38 :: u39 :: u40 :: undef :: undef :: [])), defers := ds } ∧ Marks w.heap.size W.heap.size W ds ∧ MatAt W w1.heap.size (rowsF l0) l0.length ∧ MatAt W W2.heap.size (turnK (rowsF l0) k) l0.length ∧ Below w.heap.size w W) (fun a' _ => l0.length - (intOf (a'.tmps.getD 22 undef)).toNat) ?start ?round
      case start => exact ⟨0, undef, undef, undef, undef, undef, undef, undef, undef, undef, undef, undef, undef, undef, undef, undef, undef, undef, undef, undef, undef, [], by omega, rfl, trivial, M4, by rw [turnK_zero]; exact T4, hB4⟩
      case round =>
        clear M4 T4 hB4 hs4
        rintro a_ W ⟨k, u7, u8, u23, u24, u25, u26, u27, u28, u29, u30, u31, u32, u33, u34, u35, u36, u37, u38, u39, u40, ds, hk, rfl, hMk, hM, hT, hB⟩
        by_cases hlt : k < l0.length
        · have hk1 : decide ((k : Int) < ((l0.length : Nat) : Int)) = true := decide_eq_true (by omega)
          have hk0 : (0 : Int) ≤ (k : Int) := by omega
          have hk64 : (k : Int) < 64 := by omega
          have hcell := hM.cell k (by omega)
          have hs1 := hM.lt
          have hs2 := hT.lt
          gi_wp2_with (gi_at_call 71; refine (all_in F (m - 1) hfa hro _ _).mono ?_; rintro e w' ⟨rfl, rfl⟩)
          have bI := Boxed.new W 3 (.int .i64 ((k : Nat) : Int))
          have bS := Boxed.new (W.alloc (.cells #[.int .i64 ((k : Nat) : Int)] 3)) 33 (.int .u64 ((rowsF l0 k : Nat) : Int))
          rw [World.size_alloc] at bS
          have hB0 : Below w.heap.size w ((W.alloc (.cells #[.int .i64 ((k : Nat) : Int)] 3)).alloc (.cells #[.int .u64 ((rowsF l0 k : Nat) : Int)] 33)) := (hB.alloc hB.size _).alloc (by simp; exact Nat.le_succ_of_le hB.size) _
          have hBs := hB.size
          refine wpIn_rangeFunc_ownG hro (by omega) (gf := 77) (lb := #[.pointer (some ⟨W.heap.size + 1, 0, none⟩)]) rfl hf1 (enters_of Try.func77 (by kernel_rfl) rfl)
            (all_stops F (m - 1) hf1 hfh hfo hro (by omega) (W.heap.size + 1) (rowsF l0 k) (HR.out k) _ (by simp) bS.cell) KC_t (KC_b (by simp)) (Below.refl _ _) (fun _ => rfl)
            (fun pre W' => MatAt W' w1.heap.size (rowsF l0) l0.length ∧ MatAt W' W2.heap.size (turnP (rowsF l0) k pre) l0.length ∧ Boxed W' W.heap.size 3 (.int .i64 ((k : Nat) : Int)) ∧ Boxed W' (W.heap.size + 1) 33 (.int .u64 ((rowsF l0 k : Nat) : Int)) ∧ Marks w.heap.size W.heap.size W' ds ∧ Below w.heap.size w W')
            (fun _ _ _ => False)
            (OwnFrom.and (Own.from (mat_own _ (fun _ => rowsF l0) _) _) (OwnFrom.and (Own.from (mat_own _ (fun pre => turnP (rowsF l0) k pre) _) _) (OwnFrom.and (Own.from (boxed_own _ _ (fun _ => .int .i64 ((k : Nat) : Int))) _) (OwnFrom.and (Own.from (boxed_own _ _ (fun _ => .int .u64 ((rowsF l0 k : Nat) : Int))) _) (OwnFrom.and (Marks.own _ _ (by simp; omega) _) (ownFrom_below (Nat.le_refl _) (by simp; omega)))))))
            (fun _ _ _ _ _ hs _ _ => hs)
            ⟨(hM.alloc _).alloc _, by rw [turnP_nil]; exact (hT.alloc _).alloc _, bI.alloc _, bS, hMk.imp (Nat.le_refl _) (fun D hD hh => (((World.grownBy_alloc _ _ none).block D (by simp; omega) (by simp)).trans ((World.grownBy_alloc _ _ none).block D hD (by simp))).trans hh), hB0⟩
            (fun x => { tmps := (List.toArray ((.slice A0 l0.length c0 : Value) :: undef :: (.slice none 0 0 : Value) :: (.int .i64 0 : Value) :: (.pointer (some ⟨w1.heap.size, 0, none⟩) : Value) :: (.int .i64 0 : Value) :: (.pointer (some ⟨W2.heap.size, 0, none⟩) : Value) :: (.pointer (some ⟨W.heap.size, 0, none⟩) : Value) :: (.int .i64 ((x : Fin 64).val : Nat) : Value) :: (.tuple #[.agg (mcells (rowsF l0) l0.length).toArray, .int .i64 0] : Value) :: (.slice A0 l0.length c0 : Value) :: (.tuple #[.agg (mcells (rowsF l0) l0.length).toArray, .int .i64 0] : Value) :: (.agg (mcells (rowsF l0) l0.length).toArray : Value) :: (.int .i64 0 : Value) :: (.int .i64 0 : Value) :: (.bool false : Value) :: undef :: (.pointer (some ⟨w1.heap.size, 64, none⟩) : Value) :: (.int .i64 ((l0.length : Nat) : Int) : Value) :: (.agg (mcells (fun _ => 0) l0.length).toArray : Value) :: (.pointer (some ⟨w1.heap.size, 64, none⟩) : Value) :: (.int .i64 ((l0.length : Nat) : Int) : Value) :: (.int .i64 ((k : Nat) : Int) : Value) :: (.bool true : Value) :: (.int .i64 ((k : Nat) : Int) : Value) :: (.int .i64 ((k : Nat) : Int) : Value) :: (.pointer (some ⟨w1.heap.size, 0, none⟩) : Value) :: (.pointer (some ⟨w1.heap.size, k, none⟩) : Value) :: (.int .u64 ((rowsF l0 k : Nat) : Int) : Value) :: (.func (.func 77) #[] #[.pointer (some ⟨W.heap.size + 1, 0, none⟩)] : Value) :: (.int .i64 (x.val : Nat) : Value) :: u31 :: u32 :: u33 :: u34 :: u35 :: u36 :: u37 :: u38 :: u39 :: u40 :: undef :: undef :: [])), defers := [] }) ?assign ?body ?done ?stop
          case assign =>
            intro l x W K hK
            gi_wp2
            exact hK
          case body =>
            rintro l pre x W' ⟨hM1, hT1, hI1, hS1, hMk1, hB1⟩ hltp
            have HMK := Lib.hid hMk1
            have hcT := hT1.cell x.val x.2
            have hfT := hT1.frozen x.val
            have hcI := hI1.cell
            have h0x : (0 : Int) ≤ ((x.val : Nat) : Int) := by omega
            have h64 : ((x.val : Nat) : Int) < 64 := by have := x.2; omega
            have hszs : W.heap.size + 1 < W'.heap.size := hS1.lt
            have hmx : Try.prog.follows .mixedOrders = true := by kernel_rfl
            have hor := or_u64 (turnP_lt (rowsF l0) (k := k) (by omega) pre x.val) (Nat.pow_lt_pow_right (a := 2) (by decide) (show k < 64 by omega))
            generalize hp : ((2 ^ k : Nat) : Int) = p at hor
            have HP := Lib.hid hp
            have HOR := Lib.hid hor
            clear hp
            have HM1 := Lib.hid hM1
            have HT1 := Lib.hid hT1
            have HI1 := Lib.hid hI1
            have HS1 := Lib.hid hS1
            have HB1 := Lib.hid hB1
            clear hor hcell hMk hM hT hB bI bS hB0 hMk1 hM1 hT1 hI1 hS1 hB1 HL
            have hd : 1 ≤ m - 1 - 1 := by omega
            generalize Value.tuple #[.agg (mcells (rowsF l0) l0.length).toArray, .int .i64 0] = g0
            generalize Value.slice A0 l0.length c0 = g1
            generalize Value.agg (mcells (rowsF l0) l0.length).toArray = g2
            generalize Value.agg (mcells (fun _ => 0) l0.length).toArray = g3
            generalize Value.pointer (some ⟨w1.heap.size, 64, none⟩) = g4
            generalize Value.pointer (some ⟨w1.heap.size, 0, none⟩) = g5
            generalize Value.pointer (some ⟨w1.heap.size, k, none⟩) = g6
            generalize Value.func (.func 77) #[] #[.pointer (some ⟨W.heap.size + 1, 0, none⟩)] = g7
            generalize Value.int .i64 ((l0.length : Nat) : Int) = g8
            gi_wp2
            refine wpIn_region_any hmx (anyIn_round hro (noDefer_spec (by kernel_rfl)) _ _ _ _ ?_)
            change wpAnyIn _ _ _ _ _ _ _ _ _ (World.drew _)
            refine wpAnyIn_take (i := 0) (v := ?_) hro rfl (by kernel_rfl) (by kernel_rfl) (by kernel_rfl) (fun _ _ _ h => h) ⟨Or.inl ⟨by rfl, ?_⟩, fun _ => rfl⟩ ?_
            rotate_left
            · (intro W_; go_simp; try with_reducible rfl)
            try simp only [Act.put, List.getElem_toArray, List.getElem_cons_zero, List.getElem_cons_succ, List.setIfInBounds_toArray, List.set_cons_zero, List.set_cons_succ]
            refine wpAnyIn_take (i := 1) (v := ?_) hro rfl (by kernel_rfl) (by kernel_rfl) (by kernel_rfl) (fun _ _ _ h => h) ⟨Or.inl ⟨by rfl, ?_⟩, fun _ => rfl⟩ ?_
            rotate_left
            · (intro W_; go_simp; try with_reducible rfl)
            try simp only [Act.put, List.getElem_toArray, List.getElem_cons_zero, List.getElem_cons_succ, List.setIfInBounds_toArray, List.set_cons_zero, List.set_cons_succ]
            refine wpAnyIn_take (i := 2) (v := ?_) hro rfl (by kernel_rfl) (by kernel_rfl) (by kernel_rfl) (fun _ _ _ h => h) ⟨Or.inl ⟨by rfl, ?_⟩, fun _ => rfl⟩ ?_
            rotate_left
            · (intro W_; go_simp; try with_reducible rfl)
            try simp only [Act.put, List.getElem_toArray, List.getElem_cons_zero, List.getElem_cons_succ, List.setIfInBounds_toArray, List.set_cons_zero, List.set_cons_succ]
            refine wpAnyIn_take (i := 7) (v := ?_) hro rfl (by kernel_rfl) (by kernel_rfl) (by kernel_rfl) (fun _ _ _ h => h) ⟨Or.inl ⟨by rfl, ?_⟩, fun _ => rfl⟩ ?_
            rotate_left
            · (intro W_; go_simp; try with_reducible rfl)
            try simp only [Act.put, List.getElem_toArray, List.getElem_cons_zero, List.getElem_cons_succ, List.setIfInBounds_toArray, List.set_cons_zero, List.set_cons_succ]
            refine wpAnyIn_ready (rs := [3, 4]) (by kernel_rfl) (by simp) ?_
            refine AllReadyIn.cons (o := _) rfl (fun K hK => ?_) (AllReadyIn.cons (o := _) rfl (fun K hK => ?_) AllReadyIn.nil)
            · go_simp
              refine hK _ _ ?_
              clear hK K
              try simp only [Act.put, List.getElem_toArray, List.getElem_cons_zero, List.getElem_cons_succ, List.setIfInBounds_toArray, List.set_cons_zero, List.set_cons_succ]
              refine wpAnyIn_ready (rs := [4]) (by kernel_rfl) (by simp) ?_
              refine AllReadyIn.cons (o := _) rfl (fun K hK => ?_) AllReadyIn.nil
              go_simp
              refine hK _ _ ?_
              clear hK K
              try simp only [Act.put, List.getElem_toArray, List.getElem_cons_zero, List.getElem_cons_succ, List.setIfInBounds_toArray, List.set_cons_zero, List.set_cons_succ]
              refine wpAnyIn_ready (rs := [5]) (by kernel_rfl) (by simp) ?_
              refine AllReadyIn.cons (o := _) rfl (fun K hK => ?_) AllReadyIn.nil
              go_simp
              refine (one_in F _ hfo hro k (by omega) _).mono ?_
              rintro e_ w_ ⟨rfl, rfl⟩
              rw [HP.out]
              dsimp only
              refine hK _ _ ?_
              clear hK K
              try simp only [Act.put, List.getElem_toArray, List.getElem_cons_zero, List.getElem_cons_succ, List.setIfInBounds_toArray, List.set_cons_zero, List.set_cons_succ]
              refine wpAnyIn_take (i := 6) (v := ?_) hro rfl (by kernel_rfl) (by kernel_rfl) (by kernel_rfl) (fun _ _ _ h => h) ⟨Or.inl ⟨by rfl, ?_⟩, fun _ => rfl⟩ ?_
              rotate_left
              · (intro W_; go_simp; try with_reducible rfl)
              try simp only [Act.put, List.getElem_toArray, List.getElem_cons_zero, List.getElem_cons_succ, List.setIfInBounds_toArray, List.set_cons_zero, List.set_cons_succ]
              refine wpAnyIn_take (i := 8) (v := ?_) hro rfl (by kernel_rfl) (by kernel_rfl) (by kernel_rfl) (fun _ _ _ h => h) ⟨Or.inl ⟨by rfl, ?_⟩, fun _ => rfl⟩ ?_
              rotate_left
              · (intro W_; go_simp; try with_reducible rfl)
              try simp only [Act.put, List.getElem_toArray, List.getElem_cons_zero, List.getElem_cons_succ, List.setIfInBounds_toArray, List.set_cons_zero, List.set_cons_succ]
              refine wpAnyIn_ready (rs := [9]) (by kernel_rfl) (by simp) ?_
              refine AllReadyIn.cons (o := _) rfl (fun K hK => ?_) AllReadyIn.nil
              go_simp
              refine hK _ _ ?_
              clear hK K
              try simp only [Act.put, List.getElem_toArray, List.getElem_cons_zero, List.getElem_cons_succ, List.setIfInBounds_toArray, List.set_cons_zero, List.set_cons_succ]
              refine wpAnyIn_done (by kernel_rfl) ?_ _
              gi_wp2
              rw [HOR.out]
              have hT2 := HT1.out.set x.val (turnP (rowsF l0) k pre x.val ||| 2 ^ k) x.2
              rw [turnP_snoc] at hT2
              have hM2 := HM1.out.other (B := W2.heap.size) (by omega) x.val (.int .u64 ((turnP (rowsF l0) k pre x.val ||| 2 ^ k : Nat) : Int))
              have hS2 := boxed_at (B' := W2.heap.size) HS1.out (by omega) x.val (.int .u64 ((turnP (rowsF l0) k pre x.val ||| 2 ^ k : Nat) : Int))
              have hI2 := boxed_at (B' := W2.heap.size) HI1.out (by omega) x.val (.int .u64 ((turnP (rowsF l0) k pre x.val ||| 2 ^ k : Nat) : Int))
              exact ⟨((KeepsOthers.setCell _ _ _).trans (KeepsOthers.drew _)).from _, KC_of HS1.out hS2, hM2, hT2, hI2, hS2, HMK.out.store HT1.out _ _, (HB1.out.setCell (p := ⟨W2.heap.size, x.val, none⟩) hB2s _).drew⟩
            · go_simp
              refine hK _ _ ?_
              clear hK K
              try simp only [Act.put, List.getElem_toArray, List.getElem_cons_zero, List.getElem_cons_succ, List.setIfInBounds_toArray, List.set_cons_zero, List.set_cons_succ]
              refine wpAnyIn_ready (rs := [3, 5]) (by kernel_rfl) (by simp) ?_
              refine AllReadyIn.cons (o := _) rfl (fun K hK => ?_) (AllReadyIn.cons (o := _) rfl (fun K hK => ?_) AllReadyIn.nil)
              · go_simp
                refine hK _ _ ?_
                clear hK K
                try simp only [Act.put, List.getElem_toArray, List.getElem_cons_zero, List.getElem_cons_succ, List.setIfInBounds_toArray, List.set_cons_zero, List.set_cons_succ]
                refine wpAnyIn_ready (rs := [5]) (by kernel_rfl) (by simp) ?_
                refine AllReadyIn.cons (o := _) rfl (fun K hK => ?_) AllReadyIn.nil
                go_simp
                refine (one_in F _ hfo hro k (by omega) _).mono ?_
                rintro e_ w_ ⟨rfl, rfl⟩
                rw [HP.out]
                dsimp only
                refine hK _ _ ?_
                clear hK K
                try simp only [Act.put, List.getElem_toArray, List.getElem_cons_zero, List.getElem_cons_succ, List.setIfInBounds_toArray, List.set_cons_zero, List.set_cons_succ]
                refine wpAnyIn_take (i := 6) (v := ?_) hro rfl (by kernel_rfl) (by kernel_rfl) (by kernel_rfl) (fun _ _ _ h => h) ⟨Or.inl ⟨by rfl, ?_⟩, fun _ => rfl⟩ ?_
                rotate_left
                · (intro W_; go_simp; try with_reducible rfl)
                try simp only [Act.put, List.getElem_toArray, List.getElem_cons_zero, List.getElem_cons_succ, List.setIfInBounds_toArray, List.set_cons_zero, List.set_cons_succ]
                refine wpAnyIn_take (i := 8) (v := ?_) hro rfl (by kernel_rfl) (by kernel_rfl) (by kernel_rfl) (fun _ _ _ h => h) ⟨Or.inl ⟨by rfl, ?_⟩, fun _ => rfl⟩ ?_
                rotate_left
                · (intro W_; go_simp; try with_reducible rfl)
                try simp only [Act.put, List.getElem_toArray, List.getElem_cons_zero, List.getElem_cons_succ, List.setIfInBounds_toArray, List.set_cons_zero, List.set_cons_succ]
                refine wpAnyIn_ready (rs := [9]) (by kernel_rfl) (by simp) ?_
                refine AllReadyIn.cons (o := _) rfl (fun K hK => ?_) AllReadyIn.nil
                go_simp
                refine hK _ _ ?_
                clear hK K
                try simp only [Act.put, List.getElem_toArray, List.getElem_cons_zero, List.getElem_cons_succ, List.setIfInBounds_toArray, List.set_cons_zero, List.set_cons_succ]
                refine wpAnyIn_done (by kernel_rfl) ?_ _
                gi_wp2
                rw [HOR.out]
                have hT2 := HT1.out.set x.val (turnP (rowsF l0) k pre x.val ||| 2 ^ k) x.2
                rw [turnP_snoc] at hT2
                have hM2 := HM1.out.other (B := W2.heap.size) (by omega) x.val (.int .u64 ((turnP (rowsF l0) k pre x.val ||| 2 ^ k : Nat) : Int))
                have hS2 := boxed_at (B' := W2.heap.size) HS1.out (by omega) x.val (.int .u64 ((turnP (rowsF l0) k pre x.val ||| 2 ^ k : Nat) : Int))
                have hI2 := boxed_at (B' := W2.heap.size) HI1.out (by omega) x.val (.int .u64 ((turnP (rowsF l0) k pre x.val ||| 2 ^ k : Nat) : Int))
                exact ⟨((KeepsOthers.setCell _ _ _).trans (KeepsOthers.drew _)).from _, KC_of HS1.out hS2, hM2, hT2, hI2, hS2, HMK.out.store HT1.out _ _, (HB1.out.setCell (p := ⟨W2.heap.size, x.val, none⟩) hB2s _).drew⟩
              · go_simp
                refine (one_in F _ hfo hro k (by omega) _).mono ?_
                rintro e_ w_ ⟨rfl, rfl⟩
                rw [HP.out]
                dsimp only
                refine hK _ _ ?_
                clear hK K
                try simp only [Act.put, List.getElem_toArray, List.getElem_cons_zero, List.getElem_cons_succ, List.setIfInBounds_toArray, List.set_cons_zero, List.set_cons_succ]
                refine wpAnyIn_ready (rs := [3]) (by kernel_rfl) (by simp) ?_
                refine AllReadyIn.cons (o := _) rfl (fun K hK => ?_) AllReadyIn.nil
                go_simp
                refine hK _ _ ?_
                clear hK K
                try simp only [Act.put, List.getElem_toArray, List.getElem_cons_zero, List.getElem_cons_succ, List.setIfInBounds_toArray, List.set_cons_zero, List.set_cons_succ]
                refine wpAnyIn_take (i := 6) (v := ?_) hro rfl (by kernel_rfl) (by kernel_rfl) (by kernel_rfl) (fun _ _ _ h => h) ⟨Or.inl ⟨by rfl, ?_⟩, fun _ => rfl⟩ ?_
                rotate_left
                · (intro W_; go_simp; try with_reducible rfl)
                try simp only [Act.put, List.getElem_toArray, List.getElem_cons_zero, List.getElem_cons_succ, List.setIfInBounds_toArray, List.set_cons_zero, List.set_cons_succ]
                refine wpAnyIn_take (i := 8) (v := ?_) hro rfl (by kernel_rfl) (by kernel_rfl) (by kernel_rfl) (fun _ _ _ h => h) ⟨Or.inl ⟨by rfl, ?_⟩, fun _ => rfl⟩ ?_
                rotate_left
                · (intro W_; go_simp; try with_reducible rfl)
                try simp only [Act.put, List.getElem_toArray, List.getElem_cons_zero, List.getElem_cons_succ, List.setIfInBounds_toArray, List.set_cons_zero, List.set_cons_succ]
                refine wpAnyIn_ready (rs := [9]) (by kernel_rfl) (by simp) ?_
                refine AllReadyIn.cons (o := _) rfl (fun K hK => ?_) AllReadyIn.nil
                go_simp
                refine hK _ _ ?_
                clear hK K
                try simp only [Act.put, List.getElem_toArray, List.getElem_cons_zero, List.getElem_cons_succ, List.setIfInBounds_toArray, List.set_cons_zero, List.set_cons_succ]
                refine wpAnyIn_done (by kernel_rfl) ?_ _
                gi_wp2
                rw [HOR.out]
                have hT2 := HT1.out.set x.val (turnP (rowsF l0) k pre x.val ||| 2 ^ k) x.2
                rw [turnP_snoc] at hT2
                have hM2 := HM1.out.other (B := W2.heap.size) (by omega) x.val (.int .u64 ((turnP (rowsF l0) k pre x.val ||| 2 ^ k : Nat) : Int))
                have hS2 := boxed_at (B' := W2.heap.size) HS1.out (by omega) x.val (.int .u64 ((turnP (rowsF l0) k pre x.val ||| 2 ^ k : Nat) : Int))
                have hI2 := boxed_at (B' := W2.heap.size) HI1.out (by omega) x.val (.int .u64 ((turnP (rowsF l0) k pre x.val ||| 2 ^ k : Nat) : Int))
                exact ⟨((KeepsOthers.setCell _ _ _).trans (KeepsOthers.drew _)).from _, KC_of HS1.out hS2, hM2, hT2, hI2, hS2, HMK.out.store HT1.out _ _, (HB1.out.setCell (p := ⟨W2.heap.size, x.val, none⟩) hB2s _).drew⟩
          case done =>
            rintro D ys W' hD rfl ⟨hM1, hT1, hI1, hS1, hMk1, hB1⟩ hK
            gi_wp2
            have hD' : W.heap.size + 1 + 1 ≤ D := by simpa using hD
            have hDlt : D < W'.heap.size := (Array.getElem?_eq_some_iff.1 hK).1
            refine ⟨⟨k + 1, _, _, _, _, _, _, _, _, _, _, _, _, _, _, _, _, _, _, _, _, { target := .collected D, args := #[] } :: ds, by omega, rfl, ⟨D, rfl, by omega, hDlt, hK, fun d' hd' => ?_, hMk1.imp (by omega) (fun _ _ h_ => h_)⟩, hM1, hT1.ext (turnP_end _ _), hB1⟩, by simp [intOf]; omega⟩
            obtain ⟨D', hD1, rfl⟩ := hMk1.below d' hd'
            intro e
            simp at e
            omega
          case stop =>
            rintro D c pre W' _ _ h_ _
            exact h_.elim
        · have hkn : k = l0.length := by omega
          subst hkn
          have hk1 : decide (((l0.length : Nat) : Int) < ((l0.length : Nat) : Int)) = false := by simp
          gi_wp2_with (first | (with_reducible refine wpListIn_load_mid rfl 83 (.tmp 6) rfl (W2.heap.size) 0 rfl (mcells (turnK (rowsF l0) l0.length) l0.length) _ (hT).range isM isMrow (infoM _ _) ?_) | (gi_at_call 69; refine (HL.out _ _).mono ?_; rintro e_ w9 ⟨v9, rfl, hv9, hb9⟩))
          refine leave_marks (B := w.heap.size) (U := W.heap.size) ds _ (hMk.imp (Nat.le_refl _) (fun D hD hh => (hb9.block D hD).trans hh)) fun W3 hT3 => ?_
          refine ⟨.tuple #[v9, .int .i64 0], by simp [results, Try.f74, go_sem], v9, rfl, Kd.R_of_own (hT3.owns (Kd.own_of_R (Kd.R_lower hv9 hB.size))) (fun _ _ => trivial), hT3.below (hB.trans (hb9.mono hB.size))⟩
    · rw [if_neg he] at h
      simp only [Option.some.injEq, Prod.mk.injEq] at h
      obtain ⟨rfl, rfl⟩ := h
      have ht : (e != 0) = true := by simpa using he
      clear he hE
      go_enter Try.func74, Try.ntmps74
      go_wp2_with (first | (go_at_call 67; refine (HO.out).mono ?_; rintro e_ w1 ⟨rfl, hb1⟩; have Z1 := MatAt.new w1 (fun _ => 0) 0) | (with_reducible refine wpList_store_mid rfl 83 (.tmp 4) (.tmp 12) rfl (w1.heap.size) 0 (mcells R n).toArray rfl rfl (by simpa [mcells_len] using (Z1).there) (by simpa using infoM _ _) (all_oneCell_toArray (mcells_one _ _)) ?_))
      go_ret2
      exact ⟨_, rfl, Kd.R_nil _ _ _ _ _, below_setCells (vbelow_alloc' hb1 _) (by simp; exact Nat.le_succ_of_le hb1.size) hb1.size _ _⟩
  next => cases h
end Go.Proofs.Ytlbjcmiegbejdaa.Q
