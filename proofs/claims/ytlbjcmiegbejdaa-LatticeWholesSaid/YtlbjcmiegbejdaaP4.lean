/- Layer 2, plain: closures, joins and turned policies. -/
import Derived.Test.YtlbjcmiegbejdaaP3
namespace Go.Proofs.Ytlbjcmiegbejdaa.Q
open Go.RowKit Go.Proofs.YtlbjcmiegbejdaaW.PrintWords Go.Proofs.YtlbjcmiegbejdaaW.PrintMore Go.Proofs.YtlbjcmiegbejdaaW.PrintLast Go.Proofs.Ytlbjcmiegbejdaa.Bm
set_option linter.unusedVariables false
set_option linter.unusedSimpArgs false
theorem bit_lt {s n i : Nat} (h : s < 2 ^ n) (hb : s.testBit i = true) : i < n := by
  apply Nat.lt_of_not_le
  intro hle
  rw [Nat.testBit_lt_two_pow (Nat.lt_of_lt_of_le h (Nat.pow_le_pow_right (by decide) hle))] at hb
  cases hb
/-! ### joins -/
theorem and_self_iff {u v : Nat} : u &&& v = u ↔ ∀ d, u.testBit d = true → v.testBit d = true := by
  constructor
  · intro h d hd
    rw [← h, Nat.testBit_and, Bool.and_eq_true] at hd
    exact hd.2
  · intro h
    apply Nat.eq_of_testBit_eq
    intro d
    rw [Nat.testBit_and]
    cases hd : u.testBit d with
    | false => rfl
    | true => rw [h d hd]; rfl
/-! ### turned around -/
theorem turnL_rows {l : List Int} {j : Nat} (hj : j < l.length) : rowsF (turnL l) j = turnK (rowsF l) l.length j := rowsF_I hj
theorem turnL_bit {l : List Int} {i j : Nat} (hj : j < l.length) : (rowsF (turnL l) j).testBit i = (decide (i < l.length) && (rowsF l i).testBit j) := by rw [turnL_rows hj, turnK_bit]
end Go.Proofs.Ytlbjcmiegbejdaa.Q
