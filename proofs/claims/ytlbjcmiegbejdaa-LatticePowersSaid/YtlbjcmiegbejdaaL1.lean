/- A region that draws its order, in a round of a loop over an iterator: walked by the words of a plain walk. -/
import Derived.Test.YtlbjcmiegbejdaaB9
import Derived.Test.YtlbjcmiegbejdaaWTab
import Derived.RangeFuncCalls
import Derived.ControlIn
import Derived.Test.YtlbjcmiegbejdaaB10
namespace Go.Proofs.Ytlbjcmiegbejdaa.Q
open Go.RowKit Go.Shelf
open Go.Proofs.YtlbjcmiegbejdaaW.PrintWords Go.Proofs.YtlbjcmiegbejdaaW.PrintLast Go.Proofs.YtlbjcmiegbejdaaW.PrintMore
set_option linter.unusedVariables false
section
variable {P : Program} {l n : Nat} {ops : Array Oper} {md : Region.Mode} {Q : Exit → Act → World → Prop}
theorem op_bridge {o : Oper} (hd : ∀ c, o.op ≠ .defer c) {a : Act} {w : World} {K : Act → World → Prop} (h : Oper.wp P o a w K Q) : Oper.wpIn (Fence.wide.inRound l) n P o a w K Q := by
  refine ⟨fun _ _ => trivial, ?_⟩
  rw [Oper.semAt_plain _ _ _ hd]
  unfold Oper.wp at h
  generalize (execOp a.eval o).run P w = r at h ⊢
  cases r with
  | ok x w' =>
    cases x with
    | value v => exact h
    | skip => exact h
    | defer d => exact h
    | enter f args => exact ⟨fun h_ => absurd h_ (by simp [Fence.wide, Fence.inRound]), CallsIn.inRound l (callsIn_wide.2 h)⟩
    | row r args => exact ⟨fun h_ => absurd h_ (by simp [Fence.wide, Fence.inRound]), fun c cs _ => (h c cs).imp fun v hv => hv.imp fun w2 h12 => ⟨h12.1, stepsIn_wide.2 h12.2⟩⟩
    | _ => exact h.elim
  | halt e w' =>
    cases e with
    | panic v => exact h
    | _ => exact h.elim
theorem any_bridge (hL : ¬ LetsOut Q) (hd : ∀ (j : Nat) (o : Oper) c, ops[j]? = some o → o.op ≠ .defer c) : ∀ (fuel : Nat) (listed : Array Bool) (a : Act) (w : World), wpAny P md ops Q fuel listed a w → wpAnyIn (Fence.wide.inRound l) n P md ops Q fuel listed a w
  | 0, _, _, _, h => h
  | fuel + 1, listed, a, w, h => by
    refine ⟨h.1, fun i hi => ?_⟩
    have h1 := h.2 i hi
    unfold wpOp at h1
    unfold wpOpIn
    cases ho : ops[i]? with
    | none =>
      simp only [ho] at h1 ⊢
      exact any_bridge hL hd fuel _ _ _ h1
    | some o =>
      simp only [ho] at h1 ⊢
      split
      · rename_i hw
        rw [if_pos hw] at h1
        rcases h1 with h1 | ⟨_, h2⟩
        · exact Oper.wpIn_mono (fun a' w' h' => any_bridge hL hd fuel _ a' w' h') (op_bridge (hd i o · ho) h1)
        · exact absurd h2 hL
      · rename_i hw
        rw [if_neg hw] at h1
        exact ⟨fun _ _ => trivial, any_bridge hL hd fuel _ _ _ h1⟩
/-- No operation defers. -/
def noDeferR (ops : Array Oper) : Bool := ops.toList.all fun o => match o.op with | .defer _ => false | _ => true
theorem noDeferR_spec (h : noDeferR ops = true) (j : Nat) (o : Oper) (c : Call) (ho : ops[j]? = some o) : o.op ≠ .defer c := by
  intro e
  have h1 := List.all_eq_true.1 h o (by
    obtain ⟨hj, rfl⟩ := Array.getElem?_eq_some_iff.1 ho
    exact Array.mem_toList_iff.2 (Array.getElem_mem hj))
  rw [e] at h1
  simp at h1
theorem start_round {S : World → Prop} {ds : List Nat} {id m : Nat} {a : Act} {w : World} (b : Array Bool) (hL : ¬ LetsOut Q) (hd : noDeferR ops = true) (hm : P.follows .mixedOrders = true) (hn : ops.size = m) (hl : Array.replicate m false = b) (hS : S w.drew)
    (h : S w.drew → wpAnyLast P .any ops Q S ds m b a w.drew) : (Code.region id ops true).wpIn (Fence.wide.inRound l) n P Q a w := by
  subst hn
  subst hl
  exact wpIn_region_any hm (any_bridge hL (noDeferR_spec hd) _ _ _ _ (wpAny_of_last _ _ _ _ (h hS)))
end
end Go.Proofs.Ytlbjcmiegbejdaa.Q

/- Layer 2: the labels of a policy, one by one. -/
namespace Go.Proofs.Ytlbjcmiegbejdaa.Q
open Go.RowKit Go.Shelf
attribute [local go_sem] Oper.semAt_some
set_option linter.unusedVariables false
set_option linter.unusedSimpArgs false
open Go.Proofs.YtlbjcmiegbejdaaW.PrintWords Go.Proofs.YtlbjcmiegbejdaaW.PrintMore
/-- The first k labels of m. -/
def labs (m k : Nat) : List (Fin m) := (List.finRange m).take k
theorem labs_len {m k : Nat} (h : k ≤ m) : (labs m k).length = k := by simp [labs]; omega
theorem labs_next {m k : Nat} (h : k < m) : labs m (k + 1) = labs m k ++ [⟨k, h⟩] := by
  have e : k < (List.finRange m).length := by simpa using h
  rw [labs, labs, List.take_succ_eq_append_getElem e]
  simp
theorem labs_to {m k n : Nat} (h : k ≤ n) : labs m k <+: labs m n := List.take_prefix_take_left h
set_option maxRecDepth 100000 in
set_option maxHeartbeats 2000000 in
theorem lab1_in (F : Fence) (n : Nat) (hf : F.fn 70) (hro : F.round = none) (hn : 1 ≤ n) (l Bs m c : Nat) (A : Option Addr) (hm : m ≤ 64) (J Jx : List (Fin m) → World → Prop)
    (hY : ∀ pre x W, J pre W → pre.length < 64 → YieldAt F (n - 1) Try.prog l #[.int .i64 ((x : Fin m).val : Nat)] W fun e W' =>
      (e = .returned (.bool true) ∧ J (pre ++ [x]) W' ∧ KC Bs W W') ∨ (e = .returned (.bool false) ∧ Jx (pre ++ [x]) W'))
    (W : World) (hc : W.cell? ⟨Bs, 0, none⟩ = some (.slice A m c)) (h0 : J [] W) :
    CallsIn F n Try.prog 70 #[.func (.yield l) #[] #[], .pointer (some ⟨Bs, 0, none⟩)] W fun e W' => (∃ v, e = .returned v) ∧
      ((∃ ys, labs m m = ys ∧ J ys W') ∨ (∃ pre, pre <+: labs m m ∧ Jx pre W')) := by
  refine callsIn_of_wp Try.func70 rfl hf ?_ hro
  simp only [Try.ntmps70, List.size_toArray, List.length_cons, List.length_nil, Nat.reduceAdd, Nat.reduceSub, Array.replicate_succ, Array.replicate_zero, List.push_toArray, List.append_toArray, List.nil_append, List.cons_append]
  gi_wp2
  gi_loopw [6] (fun i wr => ∃ k : Nat, k ≤ m ∧ i = .int .i64 k ∧ J (labs m k) wr)
    (fun i _ => m - (intOf i).toNat)
  case atStart => exact ⟨0, Nat.zero_le _, rfl, h0⟩
  case round =>
    obtain ⟨k, hk, rfl, hJs⟩ := hrel
    by_cases hlt : k < m
    · have hlt6 : k < 64 := by omega
      obtain ⟨fn, tmps, assign, body, hy, hR⟩ := hY _ ⟨k, hlt⟩ wr hJs (by rw [labs_len (by omega)]; exact hlt6)
      dsimp only at hy
      have hk1 : decide ((k : Int) < (m : Int)) = true := decide_eq_true (by omega)
      gi_wp2
      refine hR.mono ?_
      rintro e W3 (⟨rfl, hJ3, hk3⟩ | ⟨rfl, hJx3⟩)
      · gi_wp2
        go_roundw
        case rel => exact ⟨k + 1, by omega, by go_num, by rw [labs_next hlt]; exact hJ3⟩
        case measure => simp [intOf]; omega
      · gi_wp2
        refine bodyPost_ret (results_none rfl _ _ _) rfl ?_
        exact ⟨⟨_, rfl⟩, .inr ⟨_, by have h_ := labs_to (m := m) (show k + 1 ≤ m by omega); rwa [labs_next hlt] at h_, hJx3⟩⟩
    · obtain rfl : k = m := by omega
      have hk1 : decide ((k : Int) < (k : Int)) = false := decide_eq_false (by omega)
      gi_wp2
      go_end0
      exact ⟨⟨_, rfl⟩, .inl ⟨_, rfl, hJs⟩⟩
set_option maxHeartbeats 1000000 in
theorem labels_in (F : Fence) (n : Nat) (hf : F.fn 45) (hro : F.round = none) (A : Option Addr) (m c : Nat) (w : World) :
    CallsIn F n Try.prog 45 #[.slice A m c] w fun e w' => e = .returned (.func (.func 70) #[] #[.pointer (some ⟨w.heap.size, 0, none⟩)]) ∧ w' = w.alloc (.cells #[.slice A m c] 61) := by
  refine callsIn_of_wp Try.func45 rfl hf ?_ hro
  simp only [Try.ntmps45, List.size_toArray, List.length_cons, List.length_nil, Nat.reduceAdd, Nat.reduceSub, Array.replicate_succ, Array.replicate_zero, List.push_toArray, List.append_toArray, List.nil_append, List.cons_append]
  gi_wp2
  go_ret
  exact ⟨rfl, rfl⟩
theorem labels_stops (F : Fence) (n : Nat) (hf : F.fn 70) (hro : F.round = none) (hn : 1 ≤ n) (Bs m c : Nat) (A : Option Addr) (hm : m ≤ 64) (w : World) (hBs : Bs < w.heap.size)
    (hc : w.cell? ⟨Bs, 0, none⟩ = some (.slice A m c)) :
    SeqStopsK F n Try.prog 70 #[.pointer (some ⟨Bs, 0, none⟩)] (fun x : Fin m => #[Value.int .i64 (x.val : Nat)]) (KC Bs) (fun ys => labs m m = ys) (fun pre => pre <+: labs m m) 64 w := fun l J Jx W hW _ _ hY h0 =>
  lab1_in F n hf hro hn l Bs m c A hm J Jx hY W ((hW.cell (p := ⟨Bs, 0, none⟩) hBs).trans hc) h0
end Go.Proofs.Ytlbjcmiegbejdaa.Q
