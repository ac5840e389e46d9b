/- Layer 1: Check, Closure, Reach. -/
import Derived.Test.YtlbjcmiegbejdaaB6
namespace Go.Proofs.Ytlbjcmiegbejdaa.Q
open Go.RowKit Go.Shelf
attribute [local go_sem] Oper.semAt_some
set_option linter.unusedVariables false
set_option linter.unusedSimpArgs false
open Go.Proofs.YtlbjcmiegbejdaaW.PrintWords Go.Proofs.YtlbjcmiegbejdaaW.PrintMore
open Go.Proofs.Ytlbjcmiegbejdaa.Bm
theorem ofR_ok {l : List Int} (hl : okU l) {R : Nat → Nat} {n : Nat} {e : Int} (h : ofR l = (R, n, e)) : n ≤ 64 ∧ (∀ i, R i < 2 ^ 64) ∧ (e = 0 → n = l.length ∧ R = rowsF l ∧ okRel (rowsF l) l.length = true) := by
  unfold ofR at h
  split at h
  · cases h
    exact ⟨by omega, fun _ => Nat.two_pow_pos 64, fun h => by cases h⟩
  · split at h
    · rename_i h1 h2
      cases h
      exact ⟨by omega, rowsF_lt hl, fun _ => ⟨rfl, rfl, h2⟩⟩
    · cases h
      exact ⟨by omega, fun _ => Nat.two_pow_pos 64, fun h => by cases h⟩
def okUb (l : List Int) : Bool := l.all fun x => decide (0 ≤ x) && decide (x < 18446744073709551616)
theorem okU_of {l : List Int} (h : okUb l = true) : okU l := fun x hx => by
  have := List.all_eq_true.1 h x hx
  simpa using this
/-- A checked row, and its relation. -/
def bits_Check.f (l : List Int) : Option Int := if okUb l then some (ofR l).2.2 else none
def bits_Closure.f (l : List Int) : Option (List Int × Int) := if okUb l then (if (ofR l).2.2 = 0 then some (rowsI (wouter (rowsF l) l.length l.length) l.length, 0) else some ([], (ofR l).2.2)) else none
theorem vbelow_alloc' {w W : World} (h : Below w.heap.size w W) (o : Obj) : Below w.heap.size w (W.alloc o) := h.alloc h.size o
set_option maxRecDepth 100000 in
set_option maxHeartbeats 2000000 in
theorem bits_Check.calls (A0 : Option Addr) (c0 : Nat) (l0 : List Int) (r : Int) (w : World) (hr0 : Kd.C (Kd.int .u64) w A0 l0.length l0) (hc0 : l0.length ≤ c0) (h : bits_Check.f l0 = some r) :
    Calls Try.prog 66 #[.slice A0 l0.length c0] w fun e w' => e = .returned (.int .i64 r) ∧ Below w.heap.size w w' := by
  unfold bits_Check.f at h
  split at h
  next hk =>
    have hof := of_calls A0 c0 l0 (okU_of hk) w hr0 hc0
    obtain ⟨R, n, e, hF⟩ : ∃ R n e, ofR l0 = (R, n, e) := ⟨_, _, _, rfl⟩
    rw [hF] at h hof
    dsimp only at h hof
    have HO := Lib.hid hof
    obtain rfl : e = r := by simpa using h
    have hzM := zeroM
    clear hof hF hr0 h hk
    go_enter Try.func66, Try.ntmps66
    go_wp2_with (first | (go_at_call 67; refine (HO.out).mono ?_; rintro e_ w1 ⟨rfl, hb1⟩; have Z1 := MatAt.new w1 (fun _ => 0) 0) | (with_reducible refine wpList_store_mid rfl 83 (.tmp 3) (.tmp 8) rfl (w1.heap.size) 0 (mcells R n).toArray rfl rfl (by simpa [mcells_len] using (Z1).there) (by simpa using infoM _ _) (all_oneCell_toArray (mcells_one _ _)) ?_))
    go_ret
    exact ⟨rfl, below_setCells (vbelow_alloc' hb1 _) (by simp; exact Nat.le_succ_of_le hb1.size) hb1.size _ _⟩
  next => cases h
set_option maxRecDepth 100000 in
set_option maxHeartbeats 2000000 in
theorem bits_Closure.calls (A0 : Option Addr) (c0 : Nat) (l0 : List Int) (r1 : List Int) (r2 : Int) (w : World) (hr0 : Kd.C (Kd.int .u64) w A0 l0.length l0) (hc0 : l0.length ≤ c0) (h : bits_Closure.f l0 = some (r1, r2)) :
    Calls Try.prog 44 #[.slice A0 l0.length c0] w fun e w' => ∃ v0_ : Value, e = .returned (.tuple #[v0_, .int .i64 r2]) ∧ Kd.R (Kd.int .u64) 33 w' w.heap.size (fun _ => True) v0_ r1 ∧ Below w.heap.size w w' := by
  unfold bits_Closure.f at h
  split at h
  next hk =>
    have hlU := okU_of hk
    have hof := of_calls A0 c0 l0 hlU w hr0 hc0
    obtain ⟨R, n, e, hF⟩ : ∃ R n e, ofR l0 = (R, n, e) := ⟨_, _, _, rfl⟩
    obtain ⟨hn, hR, hE⟩ := ofR_ok hlU hF
    rw [hF] at h hof
    dsimp only at h hof
    have HO := Lib.hid hof
    have hzM := zeroM
    clear hof hF hr0 hk hlU
    by_cases he : e = 0
    · subst he
      obtain ⟨rfl, rfl, -⟩ := hE rfl
      rw [if_pos rfl] at h
      simp only [Option.some.injEq, Prod.mk.injEq] at h
      obtain ⟨rfl, rfl⟩ := h
      have hcl := fun W => closed (rowsF l0) hR l0.length hn W
      have hli := fun W => mlist (wouter (rowsF l0) l0.length l0.length) l0.length hn W
      have HC := Lib.hid hcl
      have HL := Lib.hid hli
      have ht : ((0 : Int) != 0) = false := by decide
      clear hcl hli hR hE hn
      go_enter Try.func44, Try.ntmps44
      go_upto_if 12 with (first | (go_at_call 67; refine (HO.out).mono ?_; rintro e_ w1 ⟨rfl, hb1⟩; have Z1 := MatAt.new w1 (fun _ => 0) 0) | (with_reducible refine wpList_store_mid rfl 83 (.tmp 4) (.tmp 9) rfl (w1.heap.size) 0 (mcells (rowsF l0) l0.length).toArray rfl rfl (by simpa [mcells_len] using (Z1).there) (by simpa using infoM _ _) (all_oneCell_toArray (mcells_one _ _)) ?_))
      have M2 := Z1.store (S := rowsF l0) (m := l0.length)
      have hB2 : Below w.heap.size w ((w1.alloc (.cells (mcells (fun _ => 0) 0).toArray 83)).setCells w1.heap.size 0 (mcells (rowsF l0) l0.length)) := below_setCells (vbelow_alloc' hb1 _) (by simp; exact Nat.le_succ_of_le hb1.size) hb1.size _ _
      obtain ⟨W2, hW2⟩ : ∃ W2, W2 = (w1.alloc (.cells (mcells (fun _ => 0) 0).toArray 83)).setCells w1.heap.size 0 (mcells (rowsF l0) l0.length) := ⟨_, rfl⟩
      rw [← hW2] at M2 hB2 ⊢
      clear hW2 Z1 hzM
      go_wp2_with (first | (with_reducible refine wpList_load_mid rfl 83 (.tmp 4) rfl (w1.heap.size) 0 rfl (mcells (rowsF l0) l0.length) _ (M2).range isM isMrow (infoM _ _) ?_) | (go_at_call 68; refine (HC.out _).mono ?_; rintro e_ w3 ⟨rfl, hb3⟩) | (go_at_call 69; refine (HL.out _).mono ?_; rintro e_ w4 ⟨v4, rfl, hv4, hb4⟩))
      go_ret2
      refine ⟨v4, rfl, Kd.R_lower hv4 ?_, ?_⟩
      · exact Nat.le_trans hB2.size hb3.size
      · exact (hB2.trans (hb3.mono hB2.size)).trans (hb4.mono (Nat.le_trans hB2.size hb3.size))
    · rw [if_neg he] at h
      simp only [Option.some.injEq, Prod.mk.injEq] at h
      obtain ⟨rfl, rfl⟩ := h
      have ht : (e != 0) = true := by simpa using he
      clear he hE
      go_enter Try.func44, Try.ntmps44
      go_wp2_with (first | (go_at_call 67; refine (HO.out).mono ?_; rintro e_ w1 ⟨rfl, hb1⟩; have Z1 := MatAt.new w1 (fun _ => 0) 0) | (with_reducible refine wpList_store_mid rfl 83 (.tmp 4) (.tmp 9) rfl (w1.heap.size) 0 (mcells R n).toArray rfl rfl (by simpa [mcells_len] using (Z1).there) (by simpa using infoM _ _) (all_oneCell_toArray (mcells_one _ _)) ?_))
      go_ret2
      exact ⟨_, rfl, Kd.R_nil _ _ _ _ _, below_setCells (vbelow_alloc' hb1 _) (by simp; exact Nat.le_succ_of_le hb1.size) hb1.size _ _⟩
  next => cases h
end Go.Proofs.Ytlbjcmiegbejdaa.Q
