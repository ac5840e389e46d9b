/- A region that draws its order, in a round of a loop over an iterator: walked by the words of a plain walk. -/
import Derived.Test.YtlbjcmiegbejdaaB9
import Derived.Test.YtlbjcmiegbejdaaWTab
import Derived.RangeFuncCalls
import Derived.ControlIn
namespace Go.Proofs.Ytlbjcmiegbejdaa.Q
open Go.RowKit Go.Shelf
open Go.Proofs.YtlbjcmiegbejdaaW.PrintWords Go.Proofs.YtlbjcmiegbejdaaW.PrintLast Go.Proofs.YtlbjcmiegbejdaaW.PrintMore
set_option linter.unusedVariables false
section
variable {P : Program} {l n : Nat} {ops : Array Oper} {md : Region.Mode} {Q : Exit → Act → World → Prop}
theorem op_bridge {o : Oper} (hd : ∀ c, o.op ≠ .defer c) {a : Act} {w : World} {K : Act → World → Prop} (h : Oper.wp P o a w K Q) : Oper.wpIn (Fence.wide.inRound l) n P o a w K Q := by
  refine ⟨fun _ _ => trivial, ?_⟩
  rw [Oper.semAt_plain _ _ _ hd]
  unfold Oper.wp at h
  generalize (execOp a.eval o).run P w = r at h ⊢
  cases r with
  | ok x w' =>
    cases x with
    | value v => exact h
    | skip => exact h
    | defer d => exact h
    | enter f args => exact ⟨fun h_ => absurd h_ (by simp [Fence.wide, Fence.inRound]), CallsIn.inRound l (callsIn_wide.2 h)⟩
    | row r args => exact ⟨fun h_ => absurd h_ (by simp [Fence.wide, Fence.inRound]), fun c cs _ => (h c cs).imp fun v hv => hv.imp fun w2 h12 => ⟨h12.1, stepsIn_wide.2 h12.2⟩⟩
    | _ => exact h.elim
  | halt e w' =>
    cases e with
    | panic v => exact h
    | _ => exact h.elim
theorem any_bridge (hL : ¬ LetsOut Q) (hd : ∀ (j : Nat) (o : Oper) c, ops[j]? = some o → o.op ≠ .defer c) : ∀ (fuel : Nat) (listed : Array Bool) (a : Act) (w : World), wpAny P md ops Q fuel listed a w → wpAnyIn (Fence.wide.inRound l) n P md ops Q fuel listed a w
  | 0, _, _, _, h => h
  | fuel + 1, listed, a, w, h => by
    refine ⟨h.1, fun i hi => ?_⟩
    have h1 := h.2 i hi
    unfold wpOp at h1
    unfold wpOpIn
    cases ho : ops[i]? with
    | none =>
      simp only [ho] at h1 ⊢
      exact any_bridge hL hd fuel _ _ _ h1
    | some o =>
      simp only [ho] at h1 ⊢
      split
      · rename_i hw
        rw [if_pos hw] at h1
        rcases h1 with h1 | ⟨_, h2⟩
        · exact Oper.wpIn_mono (fun a' w' h' => any_bridge hL hd fuel _ a' w' h') (op_bridge (hd i o · ho) h1)
        · exact absurd h2 hL
      · rename_i hw
        rw [if_neg hw] at h1
        exact ⟨fun _ _ => trivial, any_bridge hL hd fuel _ _ _ h1⟩
/-- No operation defers. -/
def noDeferR (ops : Array Oper) : Bool := ops.toList.all fun o => match o.op with | .defer _ => false | _ => true
theorem noDeferR_spec (h : noDeferR ops = true) (j : Nat) (o : Oper) (c : Call) (ho : ops[j]? = some o) : o.op ≠ .defer c := by
  intro e
  have h1 := List.all_eq_true.1 h o (by
    obtain ⟨hj, rfl⟩ := Array.getElem?_eq_some_iff.1 ho
    exact Array.mem_toList_iff.2 (Array.getElem_mem hj))
  rw [e] at h1
  simp at h1
theorem start_round {S : World → Prop} {ds : List Nat} {id m : Nat} {a : Act} {w : World} (b : Array Bool) (hL : ¬ LetsOut Q) (hd : noDeferR ops = true) (hm : P.follows .mixedOrders = true) (hn : ops.size = m) (hl : Array.replicate m false = b) (hS : S w.drew)
    (h : S w.drew → wpAnyLast P .any ops Q S ds m b a w.drew) : (Code.region id ops true).wpIn (Fence.wide.inRound l) n P Q a w := by
  subst hn
  subst hl
  exact wpIn_region_any hm (any_bridge hL (noDeferR_spec hd) _ _ _ _ (wpAny_of_last _ _ _ _ (h hS)))
end
end Go.Proofs.Ytlbjcmiegbejdaa.Q
