/- Layer 2: the law's word for 'not more than 17 rows'. -/
import Derived.Test.YtlbjcmiegbejdaaQx0
namespace Go.Proofs.Ytlbjcmiegbejdaa.Q
open Go.RowKit Go.Proofs.YtlbjcmiegbejdaaW.PrintWords Go.Proofs.YtlbjcmiegbejdaaW.PrintLast Go.Proofs.YtlbjcmiegbejdaaW.PrintMore
set_option linter.unusedVariables false
set_option linter.unusedSimpArgs false
theorem few_reads {w : World} {A : Option Addr} {l : List Int} (m : Nat) (h : Kd.C (Kd.int .u64) w A l.length l) : Kd.C (Kd.int .u64) w A (l.take m).length (l.take m) := by
  by_cases hm : m ≤ l.length
  · have hl : (l.take m).length = m := by rw [List.length_take]; omega
    have h1 := (Kd.reads_of_C (d := 0) h).take_ m hm
    rw [hl]
    exact Kd.C_of_reads (h1 := fun _ => rfl) h1
  · rw [List.take_of_length_le (by omega)]; exact h
theorem few_cut {w : World} {A : Option Addr} {l y : List Int} (m : Nat) (h : Kd.C (Kd.int .u64) w A l.length l) (hy : y = l.take m) : Kd.C (Kd.int .u64) w A y.length y := by rw [hy]; exact few_reads m h
theorem few_cap {l y : List Int} {c : Nat} (m : Nat) (h : l.length ≤ c) (hy : y = l.take m) : y.length ≤ c := by rw [hy, List.length_take]; omega
set_option maxHeartbeats 1000000 in
theorem few_calls (A : Option Addr) (c : Nat) (l y : List Int) (w : World) (hc : l.length ≤ c) (hy : y = l.take 17) : Calls Try.prog 13 #[.slice A l.length c] w fun e w' => e = .returned (.slice A y.length c) ∧ w = w' := by
  by_cases h : 17 < l.length
  · obtain ⟨i0, hi0, _, hsz, _⟩ := info_parts info33
    obtain ⟨hcut, _, _⟩ := print_take_of (P := Try.prog) (Value.int .u64) 0 22 33 .i64 Try.underlying22 hi0 hsz A c l 17 (by omega) (by omega) hc
    have e17 : (17 : Int).toNat = 17 := rfl
    rw [e17, ← hy] at hcut
    have c1 : decide (((l.length : Nat) : Int) > 17) = true := decide_eq_true (by omega)
    go_enter Try.func13, Try.ntmps13
    go_wp2
    go_ret
    exact ⟨by rw [hy, List.length_take]; rfl, rfl⟩
  · have c1 : decide (((l.length : Nat) : Int) > 17) = false := decide_eq_false (by omega)
    rw [List.take_of_length_le (by omega)] at hy
    subst hy
    go_enter Try.func13, Try.ntmps13
    go_wp2
    go_ret
    exact ⟨rfl, rfl⟩
end Go.Proofs.Ytlbjcmiegbejdaa.Q
