/- Layer 11: the first place that can be given. -/
import Derived.Test.YtcpaakhmcpeagaaC4
namespace Go.Proofs.Ytcpaakhmcpeagaa.Q
open Go.RowKit Go.Proofs.YtcpaakhmcpeagaaW.PrintWords Go.Proofs.YtcpaakhmcpeagaaW.PrintMore
set_option linter.unusedVariables false
set_option linter.unusedSimpArgs false
def opn (p : Pl) : Bool := !p.t && decide (p.g ≤ 65535)
set_option maxHeartbeats 1000000 in
set_option maxRecDepth 100000 in
theorem idx27_a (w : World) (b : Nat) (P : Nat → Pl) (n : Nat) (hn : n ≤ 32) (h : TabAt w b P n true) (i : Nat) (hi : i < n) (hf : ∀ k, k < i → opn (P k) = false) (ht : opn (P i) = true) : Calls Try.prog 27 #[.slice (some ⟨b, 0, none⟩) n 32, .func (.func 29) #[] #[]] w fun e w' => e = .returned (.int .i64 i) ∧ Below w.heap.size w w' := by
  go_enter Try.func27, Try.ntmps27
  go_wp2
  go_loopw [8] (fun v8 wr => ∃ k : Nat, k ≤ i ∧ v8 = .int .i64 k ∧ TabAt wr b P n true ∧ Below w.heap.size w wr) (fun v8 _ => i + 1 - (intOf v8).toNat)
  case atStart => exact ⟨0, Nat.zero_le _, rfl, h.below (by repeat (first | (with_reducible exact Below.refl _ _) | (with_reducible refine vbelow_alloc ?_ _) | (with_reducible refine vbelow_drew ?_) | (with_reducible refine vbelow_drewN ?_ _) | (with_reducible refine vbelow_set ?_ (by first | exact Nat.le_refl _ | (dsimp only; omega) | omega)))), (by repeat (first | (with_reducible exact Below.refl _ _) | (with_reducible refine vbelow_alloc ?_ _) | (with_reducible refine vbelow_drew ?_) | (with_reducible refine vbelow_drewN ?_ _) | (with_reducible refine vbelow_set ?_ (by first | exact Nat.le_refl _ | (dsimp only; omega) | omega))))⟩
  case round =>
    obtain ⟨k, hk, rfl, T1, HB1⟩ := hrel
    by_cases hki : k < i
    · have Q0 := T1.g k (by omega)
      have Q1 := T1.t k (by omega)
      have Q2 := T1.c k (by omega)
      have Q3 := T1.r k (by omega)
      have hk32 : (k : Int) < 32 := by omega
      have hk0 : (0 : Int) ≤ (k : Int) := by omega
      have hkn : (k : Int) < n := by omega
      have hlt1 : decide ((k : Int) < n) = true := decide_eq_true hkn
      go_wp2_with fail
      refine (open29 _ _ _ _ _).mono ?_
      rw [show (!(P k).t && decide ((P k).g ≤ 65535)) = false from hf k hki]
      rintro e w2 ⟨rfl, hb2⟩
      have HB2 : Below w.heap.size w w2 := vbelow_step HB1 hb2
      have T2 := T1.below hb2
      go_wp2
      go_roundw
      case rel => exact ⟨k + 1, by omega, by go_num, T2, HB2⟩
      case measure => simp [intOf]; omega
    · obtain rfl : k = i := by omega
      have Q0 := T1.g k (by omega)
      have Q1 := T1.t k (by omega)
      have Q2 := T1.c k (by omega)
      have Q3 := T1.r k (by omega)
      have hk32 : (k : Int) < 32 := by omega
      have hk0 : (0 : Int) ≤ (k : Int) := by omega
      have hkn : (k : Int) < n := by omega
      have hlt1 : decide ((k : Int) < n) = true := decide_eq_true hkn
      go_wp2_with fail
      refine (open29 _ _ _ _ _).mono ?_
      rw [show (!(P k).t && decide ((P k).g ≤ 65535)) = true from ht]
      rintro e w2 ⟨rfl, hb2⟩
      have HB2 : Below w.heap.size w w2 := vbelow_step HB1 hb2
      go_wp2
      go_ret
      exact ⟨rfl, HB2⟩
set_option maxHeartbeats 1000000 in
set_option maxRecDepth 100000 in
theorem idx27_b (w : World) (b : Nat) (P : Nat → Pl) (n : Nat) (hn : n ≤ 32) (h : TabAt w b P n true) (hf : ∀ k, k < n → opn (P k) = false) : Calls Try.prog 27 #[.slice (some ⟨b, 0, none⟩) n 32, .func (.func 29) #[] #[]] w fun e w' => e = .returned (.int .i64 (-1)) ∧ Below w.heap.size w w' := by
  go_enter Try.func27, Try.ntmps27
  go_wp2
  go_loopw [8] (fun v8 wr => ∃ k : Nat, k ≤ n ∧ v8 = .int .i64 k ∧ TabAt wr b P n true ∧ Below w.heap.size w wr) (fun v8 _ => n + 1 - (intOf v8).toNat)
  case atStart => exact ⟨0, Nat.zero_le _, rfl, h.below (by repeat (first | (with_reducible exact Below.refl _ _) | (with_reducible refine vbelow_alloc ?_ _) | (with_reducible refine vbelow_drew ?_) | (with_reducible refine vbelow_drewN ?_ _) | (with_reducible refine vbelow_set ?_ (by first | exact Nat.le_refl _ | (dsimp only; omega) | omega)))), (by repeat (first | (with_reducible exact Below.refl _ _) | (with_reducible refine vbelow_alloc ?_ _) | (with_reducible refine vbelow_drew ?_) | (with_reducible refine vbelow_drewN ?_ _) | (with_reducible refine vbelow_set ?_ (by first | exact Nat.le_refl _ | (dsimp only; omega) | omega))))⟩
  case round =>
    obtain ⟨k, hk, rfl, T1, HB1⟩ := hrel
    by_cases hki : k < n
    · have Q0 := T1.g k (by omega)
      have Q1 := T1.t k (by omega)
      have Q2 := T1.c k (by omega)
      have Q3 := T1.r k (by omega)
      have hk32 : (k : Int) < 32 := by omega
      have hk0 : (0 : Int) ≤ (k : Int) := by omega
      have hkn : (k : Int) < n := by omega
      have hlt1 : decide ((k : Int) < n) = true := decide_eq_true hkn
      go_wp2_with fail
      refine (open29 _ _ _ _ _).mono ?_
      rw [show (!(P k).t && decide ((P k).g ≤ 65535)) = false from hf k hki]
      rintro e w2 ⟨rfl, hb2⟩
      have HB2 : Below w.heap.size w w2 := vbelow_step HB1 hb2
      have T2 := T1.below hb2
      go_wp2
      go_roundw
      case rel => exact ⟨k + 1, by omega, by go_num, T2, HB2⟩
      case measure => simp [intOf]; omega
    · obtain rfl : k = n := by omega
      go_wp2
      go_ret
      exact ⟨rfl, HB1⟩
end Go.Proofs.Ytcpaakhmcpeagaa.Q
