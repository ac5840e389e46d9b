/- Layer 1: List, Size, Rank, Nth, in the printed form. -/
import Derived.Test.YtlbjcmiegbejdaaB3
namespace Go.Proofs.Ytlbjcmiegbejdaa.Q
open Go.RowKit Go.Shelf
attribute [local go_sem] Oper.semAt_some
set_option linter.unusedVariables false
set_option linter.unusedSimpArgs false
open Go.Proofs.YtlbjcmiegbejdaaW.PrintWords Go.Proofs.YtlbjcmiegbejdaaW.PrintMore
def uOk (s : Int) : Bool := decide (0 ≤ s) && decide (s < 18446744073709551616)
theorem uOk_nat {s : Int} (h : uOk s = true) : ∃ n : Nat, s = (n : Int) ∧ n < 2 ^ 64 := by
  simp only [uOk, Bool.and_eq_true, decide_eq_true_eq] at h
  exact ⟨s.toNat, by omega, by omega⟩
def bits_List.f (a0 : Int) : Option (List Int) := if uOk a0 then some (vals (pfx a0.toNat 64)) else none
def bits_Nth.f (a0 a1 : Int) : Option (Int × Bool) := if uOk a0 then (if -9223372036854775808 ≤ a1 ∧ a1 < 9223372036854775808 then some (nthR (pfx a0.toNat 64) a1) else none) else none
theorem bits_List.calls (a0 : Int) (r : List Int) (w : World) (h : bits_List.f a0 = some r) :
    Calls Try.prog 46 #[.int .u64 a0] w fun e w' => ∃ v0_ : Value, e = .returned (v0_) ∧ Kd.R (Kd.int .i64) 3 w' w.heap.size (fun _ => True) v0_ r ∧ Below w.heap.size w w' := by
  unfold bits_List.f at h
  split at h
  next hk =>
    obtain ⟨n, rfl, hn⟩ := uOk_nat hk
    rw [Int.toNat_natCast] at h
    obtain rfl := Option.some.inj h
    exact callsIn_wide.1 (list_in Fence.wide 6 trivial trivial trivial trivial trivial rfl (by decide) n hn w)
  next => cases h
theorem bits_Nth.calls (a0 a1 : Int) (r1 : Int) (r2 : Bool) (w : World) (h : bits_Nth.f a0 a1 = some (r1, r2)) :
    Calls Try.prog 63 #[.int .u64 a0, .int .i64 a1] w fun e w' => e = .returned (.tuple #[.int .i64 r1, .bool r2]) ∧ Below w.heap.size w w' := by
  unfold bits_Nth.f at h
  split at h
  next hk =>
    split at h
    next hb =>
      obtain ⟨n, rfl, hn⟩ := uOk_nat hk
      rw [Int.toNat_natCast] at h
      have e := Option.some.inj h
      have := callsIn_wide.1 (nth_in Fence.wide 7 trivial trivial trivial trivial trivial rfl (by decide) n hn a1 hb.1 hb.2 w)
      rw [e] at this
      exact this
    next => cases h
  next => cases h
end Go.Proofs.Ytlbjcmiegbejdaa.Q
