/- Layer 2, plain: sets that grow by one. -/
import Derived.Test.YtlbjcmiegbejdaaP4
namespace Go.Proofs.Ytlbjcmiegbejdaa.Q
open Go.RowKit Go.Proofs.YtlbjcmiegbejdaaW.PrintWords Go.Proofs.YtlbjcmiegbejdaaW.PrintMore Go.Proofs.YtlbjcmiegbejdaaW.PrintLast Go.Proofs.Ytlbjcmiegbejdaa.Bm
set_option linter.unusedVariables false
set_option linter.unusedSimpArgs false
theorem ofP_yes {p : Nat → Bool} {n : Nat} (h : p n = true) : ofP p (n + 1) = ofP p n ||| 2 ^ n := by
  apply bits_eq (n + 1) (ofP_lt _ _) (Nat.or_lt_two_pow (Nat.lt_of_lt_of_le (ofP_lt _ _) (Nat.pow_le_pow_right (by decide) (by omega))) (Nat.pow_lt_pow_right (by decide) (by omega)))
  intro i hi
  rw [testBit_ofP, Nat.testBit_or, testBit_ofP, Nat.testBit_two_pow]
  rcases Nat.lt_succ_iff_lt_or_eq.1 hi with h1 | rfl
  · rw [decide_eq_true hi, decide_eq_true h1, decide_eq_false (show ¬ n = i by omega), Bool.or_false]
  · rw [decide_eq_true hi, h, decide_eq_true rfl, Bool.or_true]
    rfl
theorem ofP_no {p : Nat → Bool} {n : Nat} (h : p n = false) : ofP p (n + 1) = ofP p n := by
  apply bits_eq (n + 1) (ofP_lt _ _) (Nat.lt_of_lt_of_le (ofP_lt _ _) (Nat.pow_le_pow_right (by decide) (by omega)))
  intro i hi
  rw [testBit_ofP, testBit_ofP]
  rcases Nat.lt_succ_iff_lt_or_eq.1 hi with h1 | rfl
  · rw [decide_eq_true hi, decide_eq_true h1]
  · rw [decide_eq_true hi, h, decide_eq_false (by omega)]
    rfl
theorem shl_one' {i : Nat} (hi : i < 64) : shl .u64 1 (i : Int) = ((2 ^ i : Nat) : Int) := by
  have := wrap_pow (i := i) hi
  simp only [shl, IntKind.bits, Int.toNat_natCast] at *
  rw [Int.one_mul]
  rw [Nat.min_eq_left (by omega)]
  exact this
end Go.Proofs.Ytlbjcmiegbejdaa.Q
