/- Layer 3: the statements' word for 'not more than 400 bytes'. -/
import Derived.Test.YtbbnaagfnpeloaaDoorQ2x0
namespace Go.Proofs.YtbbnaagfnpeloaaDoor.Q2
open Go.RowKit Go.Proofs.YtbbnaagfnpeloaaDoorW.PrintWords Go.Proofs.YtbbnaagfnpeloaaDoorW.PrintLast Go.Proofs.YtbbnaagfnpeloaaDoorW.PrintMore
set_option linter.unusedVariables false
set_option linter.unusedSimpArgs false
theorem few_reads {w : World} {A : Option Addr} {l : List Int} (m : Nat) (h : Kd.C (Kd.int .u8) w A l.length l) : Kd.C (Kd.int .u8) w A (l.take m).length (l.take m) := by
  by_cases hm : m ≤ l.length
  · have hl : (l.take m).length = m := by rw [List.length_take]; omega
    have h1 := (Kd.reads_of_C (d := 0) h).take_ m hm
    rw [hl]
    exact Kd.C_of_reads (h1 := fun _ => rfl) h1
  · rw [List.take_of_length_le (by omega)]; exact h
theorem few_cut {w : World} {A : Option Addr} {l y : List Int} (m : Nat) (h : Kd.C (Kd.int .u8) w A l.length l) (hy : y = l.take m) : Kd.C (Kd.int .u8) w A y.length y := by rw [hy]; exact few_reads m h
theorem few_cap {l y : List Int} {c : Nat} (m : Nat) (h : l.length ≤ c) (hy : y = l.take m) : y.length ≤ c := by rw [hy, List.length_take]; omega
set_option maxHeartbeats 1000000 in
theorem few_calls (A : Option Addr) (c : Nat) (l y : List Int) (w : World) (hc : l.length ≤ c) (hy : y = l.take 400) : Calls Tryd.prog 19 #[.slice A l.length c] w fun e w' => e = .returned (.slice A y.length c) ∧ w = w' := by
  by_cases h : 400 < l.length
  · obtain ⟨i0, hi0, _, hsz, _⟩ := info_parts info5
    obtain ⟨hcut, _, _⟩ := print_take_of (P := Tryd.prog) (Value.int .u8) 0 27 5 .i64 Tryd.underlying27 hi0 hsz A c l 400 (by omega) (by omega) hc
    have e400 : (400 : Int).toNat = 400 := rfl
    rw [e400, ← hy] at hcut
    have c1 : decide (((l.length : Nat) : Int) > 400) = true := decide_eq_true (by omega)
    go_enter Tryd.func19, Tryd.ntmps19
    go_wp2
    go_ret
    exact ⟨by rw [hy, List.length_take]; rfl, rfl⟩
  · have c1 : decide (((l.length : Nat) : Int) > 400) = false := decide_eq_false (by omega)
    rw [List.take_of_length_le (by omega)] at hy
    subst hy
    go_enter Tryd.func19, Tryd.ntmps19
    go_wp2
    go_ret
    exact ⟨rfl, rfl⟩
end Go.Proofs.YtbbnaagfnpeloaaDoor.Q2
