/- Layer 11: a new table. -/
import Derived.Test.YtcpaakhmcpeagaaC1
import Derived.Test.YtcpaakhmcpeagaaC0
namespace Go.Proofs.Ytcpaakhmcpeagaa.Q
open Go.RowKit Go.Proofs.YtcpaakhmcpeagaaW.PrintWords Go.Proofs.YtcpaakhmcpeagaaW.PrintMore
set_option linter.unusedVariables false
set_option linter.unusedSimpArgs false
/-- A new table's places, the first k of them given their first generation. -/
def newP (k : Nat) : Nat → Pl := fun i => if i < k then ⟨1, false, 0, 0⟩ else ⟨0, false, 0, 0⟩
theorem newP_next (k : Nat) : upd (newP k) k ⟨1, false, 0, 0⟩ = newP (k + 1) := by
  funext i
  unfold upd newP
  by_cases h : i = k
  · subst h; rw [if_pos rfl, if_pos (by omega)]
  · rw [if_neg h]
    by_cases h2 : i < k
    · rw [if_pos h2, if_pos (by omega)]
    · rw [if_neg h2, if_neg (by omega)]
def zcells : Array Value := (tcells (newP 0) 0 false).toArray
theorem zeroT (W : World) : (zeroValue 62).run Try.prog W = .ok (.agg zcells) W := by
  obtain ⟨i, hq, hz⟩ : ∃ i, Try.prog.info? 62 = some i ∧ i.zero = some (.agg zcells) := by
    cases h : Try.prog.info? 62 with
    | none => exact absurd h (by have : (Try.prog.info? 62).isSome = true := by kernel_rfl
                                 intro e; rw [e] at this; cases this)
    | some i =>
      refine ⟨i, rfl, ?_⟩
      have h2 : (Try.prog.info? 62).bind (·.zero) = some (.agg zcells) := by kernel_rfl
      rw [h] at h2
      exact h2
  simp [zeroValue, typeInfo, hq, hz]
theorem zcells_size : zcells.size = 130 := by unfold zcells; rw [List.size_toArray, tcells_len]
theorem zcells_set (n : Int) : (zcells.setIfInBounds 128 (.int .i64 n)).setIfInBounds 129 (.bool true) = (tcells (newP 0) n true).toArray := by
  unfold zcells
  rw [List.setIfInBounds_toArray, List.setIfInBounds_toArray]
  refine congrArg List.toArray (tcells_ext (l := ((tcells (newP 0) 0 false).set 128 (.int .i64 n)).set 129 (.bool true)) (by rw [List.length_set, List.length_set, tcells_len]) (fun i j hi hj => ?_) ?_ ?_)
  · rw [List.getElem?_set, if_neg (by omega), List.getElem?_set, if_neg (by omega), tcells_at _ _ _ _ _ hi hj]
  · rw [List.getElem?_set, if_neg (by omega), List.getElem?_set, if_pos rfl, if_pos (by rw [tcells_len]; omega)]
  · rw [List.getElem?_set, if_pos rfl, if_pos (by rw [List.length_set, tcells_len]; omega)]
theorem TabAt.new (W : World) (P : Nat → Pl) (n : Int) (m : Bool) : TabAt (W.alloc (.cells (tcells P n m).toArray 62)) W.heap.size P n m := heap_alloc_new W _
set_option maxHeartbeats 1000000 in
set_option maxRecDepth 100000 in
theorem new9 (w : World) (n : Nat) (hn : n ≤ 32) : Calls Try.prog 9 #[.int .i64 n] w fun e w' => e = .returned (.tuple #[.pointer (some ⟨w.heap.size, 0, none⟩), .int .i64 0]) ∧ TabAt w' w.heap.size (newP 32) n true ∧ Below w.heap.size w w' := by
  have hn0 : decide ((n : Int) < 0) = false := decide_eq_false (by omega)
  have hn1 : decide ((n : Int) > 32) = false := decide_eq_false (by omega)
  have hn2 : decide (32 < (n : Int)) = false := decide_eq_false (by omega)
  have hz := zeroT
  have hzs := zcells_size
  have hzz := zcells_set (n : Int)
  go_enter Try.func9, Try.ntmps9
  go_wp2
  have N0 := TabAt.new w (newP 0) n true
  go_loopw [15] (fun v15 wr => ∃ k : Nat, k ≤ 32 ∧ v15 = .int .i64 k ∧ TabAt wr w.heap.size (newP k) n true ∧ Below w.heap.size w wr) (fun v15 _ => 33 - (intOf v15).toNat)
  case atStart => exact ⟨0, Nat.zero_le _, rfl, N0, (by repeat (first | (with_reducible exact Below.refl _ _) | (with_reducible refine vbelow_alloc ?_ _) | (with_reducible refine vbelow_drew ?_) | (with_reducible refine vbelow_drewN ?_ _) | (with_reducible refine vbelow_set ?_ (by first | exact Nat.le_refl _ | (dsimp only; omega) | omega))))⟩
  case round =>
    obtain ⟨k, hk, rfl, T1, HB1⟩ := hrel
    by_cases hlt : k < 32
    · have Q0 := T1.g k hlt
      have F0 := T1.frozen (k * 4)
      have hk32 : (k : Int) < 32 := by omega
      have hk0 : (0 : Int) ≤ (k : Int) := by omega
      have hk1 : decide ((k : Int) < 32) = true := decide_eq_true (by omega)
      have T2 := T1.set k 0 (.int .i64 1) ⟨1, false, 0, 0⟩ hlt (by omega) (by unfold newP; rw [if_neg (by omega)]; rfl)
      rw [newP_next] at T2
      have HB2 : Below w.heap.size w (wr.setCell ⟨w.heap.size, k * 4, none⟩ (.int .i64 1)) := vbelow_set HB1 (Nat.le_refl _)
      go_wp2
      go_roundw
      case rel => exact ⟨k + 1, by omega, by go_num, T2, HB2⟩
      case measure => simp [intOf]; omega
    · obtain rfl : k = 32 := by omega
      go_wp2
      go_ret2
      exact ⟨rfl, T1, HB1⟩
set_option maxHeartbeats 1000000 in
set_option maxRecDepth 100000 in
theorem new9_lo (w : World) (n : Int) (hn : n < 0) : Calls Try.prog 9 #[.int .i64 n] w fun e w' => e = .returned (.tuple #[.pointer none, .int .i64 1]) ∧ Below w.heap.size w w' := by
  have hn0 : decide (n < 0) = true := decide_eq_true hn
  go_enter Try.func9, Try.ntmps9
  go_wp2
  go_ret2
  exact ⟨rfl, (by repeat (first | (with_reducible exact Below.refl _ _) | (with_reducible refine vbelow_alloc ?_ _) | (with_reducible refine vbelow_drew ?_) | (with_reducible refine vbelow_drewN ?_ _) | (with_reducible refine vbelow_set ?_ (by first | exact Nat.le_refl _ | (dsimp only; omega) | omega))))⟩
set_option maxHeartbeats 1000000 in
set_option maxRecDepth 100000 in
theorem new9_hi (w : World) (n : Int) (hn : 32 < n) : Calls Try.prog 9 #[.int .i64 n] w fun e w' => e = .returned (.tuple #[.pointer none, .int .i64 1]) ∧ Below w.heap.size w w' := by
  have hn0 : decide (n < 0) = false := decide_eq_false (by omega)
  have hn1 : decide (n > 32) = true := decide_eq_true (by omega)
  have hn2 : decide (32 < n) = true := decide_eq_true (by omega)
  go_enter Try.func9, Try.ntmps9
  go_wp2
  go_ret2
  exact ⟨rfl, (by repeat (first | (with_reducible exact Below.refl _ _) | (with_reducible refine vbelow_alloc ?_ _) | (with_reducible refine vbelow_drew ?_) | (with_reducible refine vbelow_drewN ?_ _) | (with_reducible refine vbelow_set ?_ (by first | exact Nat.le_refl _ | (dsimp only; omega) | omega))))⟩
end Go.Proofs.Ytcpaakhmcpeagaa.Q
