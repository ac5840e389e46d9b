/- Layer 1: members told to a function value, as far as it asks for them. -/
import Derived.Test.YtbbmibabjffcaaaB2
namespace Go.Proofs.Ytbbmibabjffcaaa.Q
open Go.RowKit Go.Shelf
attribute [local go_sem] Oper.semAt_some
set_option linter.unusedVariables false
set_option linter.unusedSimpArgs false
open Go.Proofs.YtbbmibabjffcaaaW.PrintWords Go.Proofs.YtbbmibabjffcaaaW.PrintMore
set_option maxRecDepth 100000 in
set_option maxHeartbeats 2000000 in
theorem all1_fn (F : Fence) (n : Nat) (hf : F.fn 41) (hfh : F.fn 16) (hfo : F.fn 39) (hfs : F.fn 19) (hro : F.round = none) (hn : 2 ≤ n) (Bs s : Nat) (hs : s < 2 ^ 64) (p0 p1 : Value) (J Jx : List (Fin 64) → World → Prop)
    (hY : ∀ m pre x W, J pre W → pre.length < 64 → CallsIn F m Try.prog 19 #[.int .i64 ((x : Fin 64).val : Nat), p0, p1] W fun e W' =>
      (e = .returned (.bool true) ∧ J (pre ++ [x]) W' ∧ KC Bs W W') ∨ (e = .returned (.bool false) ∧ Jx (pre ++ [x]) W'))
    (W : World) (hc : W.cell? ⟨Bs, 0, none⟩ = some (.int .u64 s)) (h0 : J [] W) :
    CallsIn F n Try.prog 41 #[.func (.func 19) #[] #[p0, p1], .pointer (some ⟨Bs, 0, none⟩)] W fun e W' => (∃ v, e = .returned v) ∧
      ((∃ ys, pfx s 64 = ys ∧ J ys W') ∨ (∃ pre, pre <+: pfx s 64 ∧ Jx pre W')) := by
  have h1n : 1 ≤ n := by omega
  refine callsIn_of_wp Try.func41 rfl hf ?_ hro
  simp only [Try.ntmps41, List.size_toArray, List.length_cons, List.length_nil, Nat.reduceAdd, Nat.reduceSub, Array.replicate_succ, Array.replicate_zero, List.push_toArray, List.append_toArray, List.nil_append, List.cons_append]
  gi_wp2
  gi_loopw [4] (fun i wr => ∃ k : Nat, k ≤ 64 ∧ i = .int .i64 k ∧ J (pfx s k) wr ∧ wr.cell? ⟨Bs, 0, none⟩ = some (.int .u64 s))
    (fun i _ => 64 - (intOf i).toNat)
  case atStart => exact ⟨0, Nat.zero_le _, rfl, h0, hc⟩
  case round =>
    obtain ⟨k, hk, rfl, hJs, hcw⟩ := hrel
    by_cases hlt : k < 64
    · cases hb : s.testBit k with
      | true =>
        have hR := fun m => hY m _ ⟨k, hlt⟩ wr hJs (by have := pfx_length s k; omega)
        have HR := Lib.hid hR
        clear hR
        have Hb := Lib.hid hb
        clear hb
        have hb' := @has_in F (n - 1) hfh hfo hro (by omega) s k hs hlt
        have HB := Lib.hid hb'
        clear hb'
        have hk1 : decide ((k : Int) < 64) = true := decide_eq_true (by omega)
        gi_wp2_with (gi_at_call 16; refine (HB.out _).mono ?_; rintro e w' ⟨rfl, rfl⟩; rw [Hb.out])
        have hq := HR.out (n - 1)
        first | refine CallsIn.mono hq ?_ | refine ⟨hfs, ?_⟩ <;> refine CallsIn.mono hq ?_ | exact ⟨hfs, hfs, (CallsIn.mono hq ?_).2⟩
        rintro e W3 (⟨rfl, hJ3, hk3⟩ | ⟨rfl, hJx3⟩)
        · have hq3 : W3.cell? ⟨Bs, 0, none⟩ = some (.int .u64 s) := hk3.trans hcw
          gi_wp2
          go_roundw
          case rel => exact ⟨k + 1, by omega, by go_num, by rw [pfx_yes hlt Hb.out]; exact hJ3, hq3⟩
          case measure => simp [intOf]; omega
        · gi_wp2
          refine bodyPost_ret (results_none rfl _ _ _) rfl ?_
          exact ⟨⟨_, rfl⟩, .inr ⟨_, by have h_ := pfx_to s (show k + 1 ≤ 64 by omega); rwa [pfx_yes hlt Hb.out] at h_, hJx3⟩⟩
      | false =>
        have Hb := Lib.hid hb
        clear hb
        have hb' := @has_in F (n - 1) hfh hfo hro (by omega) s k hs hlt
        have HB := Lib.hid hb'
        clear hb'
        have hk1 : decide ((k : Int) < 64) = true := decide_eq_true (by omega)
        gi_wp2_with (gi_at_call 16; refine (HB.out _).mono ?_; rintro e w' ⟨rfl, rfl⟩; rw [Hb.out])
        refine ⟨fun _ h => (by cases h), ?_⟩
        gi_wp2
        go_roundw
        case rel => exact ⟨k + 1, by omega, by go_num, by rw [pfx_no Hb.out]; exact hJs, hcw⟩
        case measure => simp [intOf]; omega
    · obtain rfl : k = 64 := by omega
      gi_wp2
      go_end0
      exact ⟨⟨_, rfl⟩, .inl ⟨_, rfl, hJs⟩⟩
end Go.Proofs.Ytbbmibabjffcaaa.Q
