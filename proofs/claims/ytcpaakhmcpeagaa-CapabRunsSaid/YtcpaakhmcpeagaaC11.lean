/- Layer 11: a cap with some of its rights; the walk of the law CapabNarrow. -/
import Derived.Test.YtcpaakhmcpeagaaC10
namespace Go.Proofs.Ytcpaakhmcpeagaa.Q
open Go.RowKit Go.Proofs.YtcpaakhmcpeagaaW.PrintWords Go.Proofs.YtcpaakhmcpeagaaW.PrintMore
set_option linter.unusedVariables false
set_option linter.unusedSimpArgs false
theorem and_half (a b : Nat) : (a &&& b = b) ↔ ¬ (b % 2 = 1 ∧ a % 2 = 0) ∧ (a / 2 &&& b / 2 = b / 2) := by
  have h1 : (a &&& b) / 2 = a / 2 &&& b / 2 := Nat.and_div_two
  have h2 : (a &&& b) % 2 = (a % 2) &&& (b % 2) := by have := Nat.and_mod_two_pow (a := a) (b := b) (n := 1); simpa using this
  have h3 : (a % 2) &&& (b % 2) = if b % 2 = 1 ∧ a % 2 = 0 then 0 else b % 2 := by
    rcases Nat.mod_two_eq_zero_or_one a with ha | ha <;> rcases Nat.mod_two_eq_zero_or_one b with hb | hb <;> rw [ha, hb] <;> decide
  rw [← h1]
  rw [h3] at h2
  split at h2 <;> omega
theorem half_of (a : Nat) (h : a < 256) : Int.tdiv (a : Int) 2 % 256 = ((a / 2 : Nat) : Int) := by rw [Int.tdiv_eq_ediv_of_nonneg (by omega)]; omega
theorem par_of (a : Nat) : Int.tmod (a : Int) 2 = ((a % 2 : Nat) : Int) := by rw [Int.tmod_eq_emod_of_nonneg (by omega)]; omega
theorem next_of (i : Nat) (h : i ≤ 8) : wrap64 ((i : Int) + 1) = ((i + 1 : Nat) : Int) := (w64 (by omega) (by omega)).trans (by omega)
theorem has_l0 : ∀ (d a b k i : Nat), a < 2 ^ d → b < 2 ^ d → i + d = 8 → d < k → rampartref11_Has.l0 k a b i = some (decide (a &&& b = b))
  | 0, a, b, k, i, ha, hb, hi, hk => by
    obtain ⟨k, rfl⟩ : ∃ m, k = m + 1 := ⟨k - 1, by omega⟩
    obtain rfl : a = 0 := by simpa using ha
    obtain rfl : b = 0 := by simpa using hb
    simp only [rampartref11_Has.l0]
    rw [if_neg (by omega)]; rfl
  | d + 1, a, b, k, i, ha, hb, hi, hk => by
    obtain ⟨k, rfl⟩ : ∃ m, k = m + 1 := ⟨k - 1, by omega⟩
    have hp : 2 ^ (d + 1) = 2 * 2 ^ d := by rw [Nat.pow_succ, Nat.mul_comm]
    have hd : 2 ^ d ≤ 128 := by
      have : 2 ^ d ≤ 2 ^ 7 := Nat.pow_le_pow_right (by decide) (by omega)
      simpa using this
    have a256 : a < 256 := by omega
    have b256 : b < 256 := by omega
    have i8 : (i : Int) < 8 := by omega
    have i9 : i ≤ 8 := by omega
    have ih := has_l0 d (a / 2) (b / 2) k (i + 1) (by omega) (by omega) (by omega) (by omega)
    have hh := and_half a b
    clear ha hb hp hd hi hk
    simp only [rampartref11_Has.l0]
    rw [if_pos i8, par_of a, par_of b, half_of a a256, half_of b b256, next_of i i9, ih]
    clear ih
    by_cases hb1 : b % 2 = 1
    · rw [if_pos (show ((b % 2 : Nat) : Int) = 1 from by rw [hb1]; rfl)]
      by_cases ha0 : a % 2 = 0
      · rw [if_pos (show ((a % 2 : Nat) : Int) = 0 from by rw [ha0]; rfl)]
        congr 1
        exact (decide_eq_false (fun e => (hh.1 e).1 ⟨hb1, ha0⟩)).symm
      · rw [if_neg (fun e => ha0 (by exact_mod_cast e))]
        congr 1
        exact decide_eq_decide.2 ⟨fun e => hh.2 ⟨fun h => ha0 h.2, e⟩, fun e => (hh.1 e).2⟩
    · rw [if_neg (fun e => hb1 (by exact_mod_cast e))]
      congr 1
      exact decide_eq_decide.2 ⟨fun e => hh.2 ⟨fun h => hb1 h.1, e⟩, fun e => (hh.1 e).2⟩
/-- Have rights all of some. -/
def hasR (a b : Int) : Bool := decide (Go.bits .and .u8 a b = b)
theorem has_eq (a b : Int) (a0 : 0 ≤ a) (a1 : a ≤ 255) (b0 : 0 ≤ b) (b1 : b ≤ 255) : rampartref11_Has.f 9 a b = some (hasR a b) := by
  obtain ⟨x, rfl⟩ := Int.eq_ofNat_of_zero_le a0
  obtain ⟨y, rfl⟩ := Int.eq_ofNat_of_zero_le b0
  have h := has_l0 8 x y 9 0 (by omega) (by omega) rfl (by decide)
  unfold rampartref11_Has.f hasR
  rw [(bits_nat .u8 8 (by decide) wraps_u8 x y (by omega) (by omega)).1]
  refine h.trans ?_
  congr 1
  exact decide_eq_decide.2 ⟨fun e => by rw [e], fun e => by exact_mod_cast e⟩
theorem has16 (w : World) (a b : Int) (a0 : 0 ≤ a) (a1 : a ≤ 255) (b0 : 0 ≤ b) (b1 : b ≤ 255) : Calls Try.prog 16 #[.int .u8 a, .int .u8 b] w fun e w' => e = .returned (.bool (hasR a b)) ∧ Below w.heap.size w w' :=
  (rampartref11_Has.calls 9 a b _ w (has_eq a b a0 a1 b0 b1)).mono fun _ _ h => ⟨h.1, h.2.below⟩
theorem narrow14_n (w : World) (c r x : Int) (h : x = 0 ∨ hasR r x = false) : Calls Try.prog 14 #[.agg #[.int .i64 c, .int .u8 r], .int .u8 x] w fun e w' => e = .returned (.tuple #[.agg #[.int .i64 0, .int .u8 0], .bool false]) ∧ Below w.heap.size w w' := by
  have e : capab_Narrow.f c r x = some (0, 0, false) := by
    unfold capab_Narrow.f
    rcases h with h | h
    · rw [if_pos h]
    · by_cases h0 : x = 0
      · rw [if_pos h0]
      · rw [if_neg h0, if_neg (of_decide_eq_false h)]
  exact (capab_Narrow.calls c r x _ _ _ w e).mono fun _ _ h => ⟨h.1, h.2⟩
theorem narrow14_y (w : World) (c r x : Int) (h0 : x ≠ 0) (h : hasR r x = true) : Calls Try.prog 14 #[.agg #[.int .i64 c, .int .u8 r], .int .u8 x] w fun e w' => e = .returned (.tuple #[.agg #[.int .i64 c, .int .u8 x], .bool true]) ∧ Below w.heap.size w w' := by
  have e : capab_Narrow.f c r x = some (c, x, true) := by
    unfold capab_Narrow.f
    rw [if_neg h0, if_pos (of_decide_eq_true h)]
  exact (capab_Narrow.calls c r x _ _ _ w e).mono fun _ _ h => ⟨h.1, h.2⟩
set_option maxHeartbeats 1000000 in
set_option maxRecDepth 100000 in
theorem narrow15_z (w : World) (c r x : Int) (r0 : 0 ≤ r) (r1 : r ≤ 255) (x0 : 0 ≤ x) (x1 : x ≤ 255) (hx : x = 0) : Calls Try.prog 15 #[.agg #[.int .i64 c, .int .u8 r], .int .u8 x] w fun e w' => e = .returned (.tuple #[.agg #[.int .i64 0, .int .u8 0], .bool false]) ∧ Below w.heap.size w w' := by
  subst hx
  go_enter Try.func15, Try.ntmps15
  go_wp2
  refine bodyPost_ret (v := .tuple #[.agg #[.int .i64 0, .int .u8 0], .bool false]) (by simp [results, Try.results15, go_sem, *]) rfl ⟨rfl, (by repeat (first | (with_reducible exact Below.refl _ _) | (with_reducible refine vbelow_alloc ?_ _) | (with_reducible refine vbelow_drew ?_) | (with_reducible refine vbelow_drewN ?_ _) | (with_reducible refine vbelow_set ?_ (by first | exact Nat.le_refl _ | (dsimp only; omega) | omega))))⟩
set_option maxHeartbeats 1000000 in
set_option maxRecDepth 100000 in
theorem narrow15_n (w : World) (c r x : Int) (r0 : 0 ≤ r) (r1 : r ≤ 255) (x0 : 0 ≤ x) (x1 : x ≤ 255) (hx : x ≠ 0) (hh : hasR r x = false) : Calls Try.prog 15 #[.agg #[.int .i64 c, .int .u8 r], .int .u8 x] w fun e w' => e = .returned (.tuple #[.agg #[.int .i64 0, .int .u8 0], .bool false]) ∧ Below w.heap.size w w' := by
  have hxd : decide (x = 0) = false := decide_eq_false hx
  have hxb : (x == 0) = false := beq_eq_false_iff_ne.2 hx
  go_enter Try.func15, Try.ntmps15
  go_wp2_with fail
  refine (has16 _ r x r0 r1 x0 x1).mono ?_
  rintro e w1 ⟨rfl, hb1⟩
  obtain ⟨hc1, hf1⟩ := vbcell hb1
  have hz1 : w.heap.size + 1 + 1 ≤ w1.heap.size := (by have h_ := hb1.size; (try simp only [World.size_alloc, World.size_setCell, World.size_drew, World.heap_drewN] at h_); omega)
  have hc1_0_0 := fun o => hc1 (w.heap.size) o (by (try simp only [World.size_alloc, World.size_setCell, World.size_drew, World.heap_drewN]); omega)
  have hf1_0_0 := fun o => hf1 (w.heap.size) o (by (try simp only [World.size_alloc, World.size_setCell, World.size_drew, World.heap_drewN]); omega)
  have hc1_0_1 := fun o => hc1 (w.heap.size + 1) o (by (try simp only [World.size_alloc, World.size_setCell, World.size_drew, World.heap_drewN]); omega)
  have hf1_0_1 := fun o => hf1 (w.heap.size + 1) o (by (try simp only [World.size_alloc, World.size_setCell, World.size_drew, World.heap_drewN]); omega)
  have HB1 : Below w.heap.size w w1 := vbelow_step (by repeat (first | (with_reducible exact Below.refl _ _) | (with_reducible refine vbelow_alloc ?_ _) | (with_reducible refine vbelow_drew ?_) | (with_reducible refine vbelow_drewN ?_ _) | (with_reducible refine vbelow_set ?_ (by first | exact Nat.le_refl _ | (dsimp only; omega) | omega)))) hb1
  clear hc1 hf1 hb1
  have hz1_0_0 : w.heap.size < w1.heap.size := (by omega)
  have hz1_0_1 : w.heap.size + 1 < w1.heap.size := (by omega)
  go_wp2
  refine bodyPost_ret (v := .tuple #[.agg #[.int .i64 0, .int .u8 0], .bool false]) (by simp [results, Try.results15, go_sem, *]) rfl ⟨rfl, (by repeat (first | (with_reducible exact Below.refl _ _) | (with_reducible exact HB1) | (with_reducible refine vbelow_alloc ?_ _) | (with_reducible refine vbelow_drew ?_) | (with_reducible refine vbelow_drewN ?_ _) | (with_reducible refine vbelow_set ?_ (by first | exact Nat.le_refl _ | (dsimp only; omega) | omega))))⟩
set_option maxHeartbeats 1000000 in
set_option maxRecDepth 100000 in
theorem narrow15_y (w : World) (c r x : Int) (r0 : 0 ≤ r) (r1 : r ≤ 255) (x0 : 0 ≤ x) (x1 : x ≤ 255) (hx : x ≠ 0) (hh : hasR r x = true) : Calls Try.prog 15 #[.agg #[.int .i64 c, .int .u8 r], .int .u8 x] w fun e w' => e = .returned (.tuple #[.agg #[.int .i64 c, .int .u8 x], .bool true]) ∧ Below w.heap.size w w' := by
  have hxd : decide (x = 0) = false := decide_eq_false hx
  have hxb : (x == 0) = false := beq_eq_false_iff_ne.2 hx
  go_enter Try.func15, Try.ntmps15
  go_wp2_with fail
  refine (has16 _ r x r0 r1 x0 x1).mono ?_
  rintro e w1 ⟨rfl, hb1⟩
  obtain ⟨hc1, hf1⟩ := vbcell hb1
  have hz1 : w.heap.size + 1 + 1 ≤ w1.heap.size := (by have h_ := hb1.size; (try simp only [World.size_alloc, World.size_setCell, World.size_drew, World.heap_drewN] at h_); omega)
  have hc1_0_0 := fun o => hc1 (w.heap.size) o (by (try simp only [World.size_alloc, World.size_setCell, World.size_drew, World.heap_drewN]); omega)
  have hf1_0_0 := fun o => hf1 (w.heap.size) o (by (try simp only [World.size_alloc, World.size_setCell, World.size_drew, World.heap_drewN]); omega)
  have hc1_0_1 := fun o => hc1 (w.heap.size + 1) o (by (try simp only [World.size_alloc, World.size_setCell, World.size_drew, World.heap_drewN]); omega)
  have hf1_0_1 := fun o => hf1 (w.heap.size + 1) o (by (try simp only [World.size_alloc, World.size_setCell, World.size_drew, World.heap_drewN]); omega)
  have HB1 : Below w.heap.size w w1 := vbelow_step (by repeat (first | (with_reducible exact Below.refl _ _) | (with_reducible refine vbelow_alloc ?_ _) | (with_reducible refine vbelow_drew ?_) | (with_reducible refine vbelow_drewN ?_ _) | (with_reducible refine vbelow_set ?_ (by first | exact Nat.le_refl _ | (dsimp only; omega) | omega)))) hb1
  clear hc1 hf1 hb1
  have hz1_0_0 : w.heap.size < w1.heap.size := (by omega)
  have hz1_0_1 : w.heap.size + 1 < w1.heap.size := (by omega)
  go_wp2
  refine bodyPost_ret (v := .tuple #[.agg #[.int .i64 c, .int .u8 x], .bool true]) (by simp [results, Try.results15, go_sem, *]) rfl ⟨rfl, (by repeat (first | (with_reducible exact Below.refl _ _) | (with_reducible exact HB1) | (with_reducible refine vbelow_alloc ?_ _) | (with_reducible refine vbelow_drew ?_) | (with_reducible refine vbelow_drewN ?_ _) | (with_reducible refine vbelow_set ?_ (by first | exact Nat.le_refl _ | (dsimp only; omega) | omega))))⟩
set_option maxHeartbeats 1000000 in
set_option maxRecDepth 100000 in
theorem law4_z (w : World) (c r x : Int) (r0 : 0 ≤ r) (r1 : r ≤ 255) (x0 : 0 ≤ x) (x1 : x ≤ 255) (hx : x = 0) : Calls Try.prog 4 #[.agg #[.int .i64 c, .int .u8 r], .int .u8 x] w fun e w' => e = .returned (.bool true) ∧ Below w.heap.size w w' := by
  subst hx
  go_enter Try.func4, Try.ntmps4
  go_wp2_with fail
  refine (narrow14_n _ c r 0 (.inl rfl)).mono ?_
  rintro e w1 ⟨rfl, hb1⟩
  obtain ⟨hc1, hf1⟩ := vbcell hb1
  have hz1 : w.heap.size + 1 ≤ w1.heap.size := (by have h_ := hb1.size; (try simp only [World.size_alloc, World.size_setCell, World.size_drew, World.heap_drewN] at h_); omega)
  have hc1_0_0 := fun o => hc1 (w.heap.size) o (by (try simp only [World.size_alloc, World.size_setCell, World.size_drew, World.heap_drewN]); omega)
  have hf1_0_0 := fun o => hf1 (w.heap.size) o (by (try simp only [World.size_alloc, World.size_setCell, World.size_drew, World.heap_drewN]); omega)
  have HB1 : Below w.heap.size w w1 := vbelow_step (by repeat (first | (with_reducible exact Below.refl _ _) | (with_reducible refine vbelow_alloc ?_ _) | (with_reducible refine vbelow_drew ?_) | (with_reducible refine vbelow_drewN ?_ _) | (with_reducible refine vbelow_set ?_ (by first | exact Nat.le_refl _ | (dsimp only; omega) | omega)))) hb1
  clear hc1 hf1 hb1
  have hz1_0_0 : w.heap.size < w1.heap.size := (by omega)
  go_wp2_with fail
  refine (narrow15_z _ c r 0 r0 r1 x0 x1 rfl).mono ?_
  rintro e w2 ⟨rfl, hb2⟩
  obtain ⟨hc2, hf2⟩ := vbcell hb2
  have hz2 : w1.heap.size + 1 ≤ w2.heap.size := (by have h_ := hb2.size; (try simp only [World.size_alloc, World.size_setCell, World.size_drew, World.heap_drewN] at h_); omega)
  have hc2_0_0 := fun o => hc2 (w.heap.size) o (by (try simp only [World.size_alloc, World.size_setCell, World.size_drew, World.heap_drewN]); omega)
  have hf2_0_0 := fun o => hf2 (w.heap.size) o (by (try simp only [World.size_alloc, World.size_setCell, World.size_drew, World.heap_drewN]); omega)
  have hc2_1_0 := fun o => hc2 (w1.heap.size) o (by (try simp only [World.size_alloc, World.size_setCell, World.size_drew, World.heap_drewN]); omega)
  have hf2_1_0 := fun o => hf2 (w1.heap.size) o (by (try simp only [World.size_alloc, World.size_setCell, World.size_drew, World.heap_drewN]); omega)
  have HB2 : Below w.heap.size w w2 := vbelow_step (by repeat (first | (with_reducible exact Below.refl _ _) | (with_reducible exact HB1) | (with_reducible refine vbelow_alloc ?_ _) | (with_reducible refine vbelow_drew ?_) | (with_reducible refine vbelow_drewN ?_ _) | (with_reducible refine vbelow_set ?_ (by first | exact Nat.le_refl _ | (dsimp only; omega) | omega)))) hb2
  clear hc2 hf2 hb2 HB1
  have hz2_0_0 : w.heap.size < w2.heap.size := (by omega)
  have hz2_1_0 : w1.heap.size < w2.heap.size := (by omega)
  go_wp2_with fail
  refine (alive10 _).mono ?_
  rintro e w3 ⟨rfl, hb3⟩
  obtain ⟨hc3, hf3⟩ := vbcell hb3
  have hz3 : w2.heap.size + 1 ≤ w3.heap.size := (by have h_ := hb3.size; (try simp only [World.size_alloc, World.size_setCell, World.size_drew, World.heap_drewN] at h_); omega)
  have hc3_0_0 := fun o => hc3 (w.heap.size) o (by (try simp only [World.size_alloc, World.size_setCell, World.size_drew, World.heap_drewN]); omega)
  have hf3_0_0 := fun o => hf3 (w.heap.size) o (by (try simp only [World.size_alloc, World.size_setCell, World.size_drew, World.heap_drewN]); omega)
  have hc3_1_0 := fun o => hc3 (w1.heap.size) o (by (try simp only [World.size_alloc, World.size_setCell, World.size_drew, World.heap_drewN]); omega)
  have hf3_1_0 := fun o => hf3 (w1.heap.size) o (by (try simp only [World.size_alloc, World.size_setCell, World.size_drew, World.heap_drewN]); omega)
  have hc3_2_0 := fun o => hc3 (w2.heap.size) o (by (try simp only [World.size_alloc, World.size_setCell, World.size_drew, World.heap_drewN]); omega)
  have hf3_2_0 := fun o => hf3 (w2.heap.size) o (by (try simp only [World.size_alloc, World.size_setCell, World.size_drew, World.heap_drewN]); omega)
  have HB3 : Below w.heap.size w w3 := vbelow_step (by repeat (first | (with_reducible exact Below.refl _ _) | (with_reducible exact HB2) | (with_reducible refine vbelow_alloc ?_ _) | (with_reducible refine vbelow_drew ?_) | (with_reducible refine vbelow_drewN ?_ _) | (with_reducible refine vbelow_set ?_ (by first | exact Nat.le_refl _ | (dsimp only; omega) | omega)))) hb3
  clear hc3 hf3 hb3 HB2
  have hz3_0_0 : w.heap.size < w3.heap.size := (by omega)
  have hz3_1_0 : w1.heap.size < w3.heap.size := (by omega)
  have hz3_2_0 : w2.heap.size < w3.heap.size := (by omega)
  go_wp2
  go_ret
  exact ⟨rfl, (by repeat (first | (with_reducible exact Below.refl _ _) | (with_reducible exact HB3) | (with_reducible refine vbelow_alloc ?_ _) | (with_reducible refine vbelow_drew ?_) | (with_reducible refine vbelow_drewN ?_ _) | (with_reducible refine vbelow_set ?_ (by first | exact Nat.le_refl _ | (dsimp only; omega) | omega))))⟩
set_option maxHeartbeats 1000000 in
set_option maxRecDepth 100000 in
theorem law4_n (w : World) (c r x : Int) (r0 : 0 ≤ r) (r1 : r ≤ 255) (x0 : 0 ≤ x) (x1 : x ≤ 255) (hx : x ≠ 0) (hh : hasR r x = false) : Calls Try.prog 4 #[.agg #[.int .i64 c, .int .u8 r], .int .u8 x] w fun e w' => e = .returned (.bool true) ∧ Below w.heap.size w w' := by
  go_enter Try.func4, Try.ntmps4
  go_wp2_with fail
  refine (narrow14_n _ c r x (.inr hh)).mono ?_
  rintro e w1 ⟨rfl, hb1⟩
  obtain ⟨hc1, hf1⟩ := vbcell hb1
  have hz1 : w.heap.size + 1 ≤ w1.heap.size := (by have h_ := hb1.size; (try simp only [World.size_alloc, World.size_setCell, World.size_drew, World.heap_drewN] at h_); omega)
  have hc1_0_0 := fun o => hc1 (w.heap.size) o (by (try simp only [World.size_alloc, World.size_setCell, World.size_drew, World.heap_drewN]); omega)
  have hf1_0_0 := fun o => hf1 (w.heap.size) o (by (try simp only [World.size_alloc, World.size_setCell, World.size_drew, World.heap_drewN]); omega)
  have HB1 : Below w.heap.size w w1 := vbelow_step (by repeat (first | (with_reducible exact Below.refl _ _) | (with_reducible refine vbelow_alloc ?_ _) | (with_reducible refine vbelow_drew ?_) | (with_reducible refine vbelow_drewN ?_ _) | (with_reducible refine vbelow_set ?_ (by first | exact Nat.le_refl _ | (dsimp only; omega) | omega)))) hb1
  clear hc1 hf1 hb1
  have hz1_0_0 : w.heap.size < w1.heap.size := (by omega)
  go_wp2_with fail
  refine (narrow15_n _ c r x r0 r1 x0 x1 hx hh).mono ?_
  rintro e w2 ⟨rfl, hb2⟩
  obtain ⟨hc2, hf2⟩ := vbcell hb2
  have hz2 : w1.heap.size + 1 ≤ w2.heap.size := (by have h_ := hb2.size; (try simp only [World.size_alloc, World.size_setCell, World.size_drew, World.heap_drewN] at h_); omega)
  have hc2_0_0 := fun o => hc2 (w.heap.size) o (by (try simp only [World.size_alloc, World.size_setCell, World.size_drew, World.heap_drewN]); omega)
  have hf2_0_0 := fun o => hf2 (w.heap.size) o (by (try simp only [World.size_alloc, World.size_setCell, World.size_drew, World.heap_drewN]); omega)
  have hc2_1_0 := fun o => hc2 (w1.heap.size) o (by (try simp only [World.size_alloc, World.size_setCell, World.size_drew, World.heap_drewN]); omega)
  have hf2_1_0 := fun o => hf2 (w1.heap.size) o (by (try simp only [World.size_alloc, World.size_setCell, World.size_drew, World.heap_drewN]); omega)
  have HB2 : Below w.heap.size w w2 := vbelow_step (by repeat (first | (with_reducible exact Below.refl _ _) | (with_reducible exact HB1) | (with_reducible refine vbelow_alloc ?_ _) | (with_reducible refine vbelow_drew ?_) | (with_reducible refine vbelow_drewN ?_ _) | (with_reducible refine vbelow_set ?_ (by first | exact Nat.le_refl _ | (dsimp only; omega) | omega)))) hb2
  clear hc2 hf2 hb2 HB1
  have hz2_0_0 : w.heap.size < w2.heap.size := (by omega)
  have hz2_1_0 : w1.heap.size < w2.heap.size := (by omega)
  go_wp2_with fail
  refine (alive10 _).mono ?_
  rintro e w3 ⟨rfl, hb3⟩
  obtain ⟨hc3, hf3⟩ := vbcell hb3
  have hz3 : w2.heap.size + 1 ≤ w3.heap.size := (by have h_ := hb3.size; (try simp only [World.size_alloc, World.size_setCell, World.size_drew, World.heap_drewN] at h_); omega)
  have hc3_0_0 := fun o => hc3 (w.heap.size) o (by (try simp only [World.size_alloc, World.size_setCell, World.size_drew, World.heap_drewN]); omega)
  have hf3_0_0 := fun o => hf3 (w.heap.size) o (by (try simp only [World.size_alloc, World.size_setCell, World.size_drew, World.heap_drewN]); omega)
  have hc3_1_0 := fun o => hc3 (w1.heap.size) o (by (try simp only [World.size_alloc, World.size_setCell, World.size_drew, World.heap_drewN]); omega)
  have hf3_1_0 := fun o => hf3 (w1.heap.size) o (by (try simp only [World.size_alloc, World.size_setCell, World.size_drew, World.heap_drewN]); omega)
  have hc3_2_0 := fun o => hc3 (w2.heap.size) o (by (try simp only [World.size_alloc, World.size_setCell, World.size_drew, World.heap_drewN]); omega)
  have hf3_2_0 := fun o => hf3 (w2.heap.size) o (by (try simp only [World.size_alloc, World.size_setCell, World.size_drew, World.heap_drewN]); omega)
  have HB3 : Below w.heap.size w w3 := vbelow_step (by repeat (first | (with_reducible exact Below.refl _ _) | (with_reducible exact HB2) | (with_reducible refine vbelow_alloc ?_ _) | (with_reducible refine vbelow_drew ?_) | (with_reducible refine vbelow_drewN ?_ _) | (with_reducible refine vbelow_set ?_ (by first | exact Nat.le_refl _ | (dsimp only; omega) | omega)))) hb3
  clear hc3 hf3 hb3 HB2
  have hz3_0_0 : w.heap.size < w3.heap.size := (by omega)
  have hz3_1_0 : w1.heap.size < w3.heap.size := (by omega)
  have hz3_2_0 : w2.heap.size < w3.heap.size := (by omega)
  go_wp2
  go_ret
  exact ⟨rfl, (by repeat (first | (with_reducible exact Below.refl _ _) | (with_reducible exact HB3) | (with_reducible refine vbelow_alloc ?_ _) | (with_reducible refine vbelow_drew ?_) | (with_reducible refine vbelow_drewN ?_ _) | (with_reducible refine vbelow_set ?_ (by first | exact Nat.le_refl _ | (dsimp only; omega) | omega))))⟩
set_option maxHeartbeats 1000000 in
set_option maxRecDepth 100000 in
theorem law4_y (w : World) (c r x : Int) (r0 : 0 ≤ r) (r1 : r ≤ 255) (x0 : 0 ≤ x) (x1 : x ≤ 255) (hx : x ≠ 0) (hh : hasR r x = true) : Calls Try.prog 4 #[.agg #[.int .i64 c, .int .u8 r], .int .u8 x] w fun e w' => e = .returned (.bool true) ∧ Below w.heap.size w w' := by
  go_enter Try.func4, Try.ntmps4
  go_wp2_with fail
  refine (narrow14_y _ c r x hx hh).mono ?_
  rintro e w1 ⟨rfl, hb1⟩
  obtain ⟨hc1, hf1⟩ := vbcell hb1
  have hz1 : w.heap.size + 1 ≤ w1.heap.size := (by have h_ := hb1.size; (try simp only [World.size_alloc, World.size_setCell, World.size_drew, World.heap_drewN] at h_); omega)
  have hc1_0_0 := fun o => hc1 (w.heap.size) o (by (try simp only [World.size_alloc, World.size_setCell, World.size_drew, World.heap_drewN]); omega)
  have hf1_0_0 := fun o => hf1 (w.heap.size) o (by (try simp only [World.size_alloc, World.size_setCell, World.size_drew, World.heap_drewN]); omega)
  have HB1 : Below w.heap.size w w1 := vbelow_step (by repeat (first | (with_reducible exact Below.refl _ _) | (with_reducible refine vbelow_alloc ?_ _) | (with_reducible refine vbelow_drew ?_) | (with_reducible refine vbelow_drewN ?_ _) | (with_reducible refine vbelow_set ?_ (by first | exact Nat.le_refl _ | (dsimp only; omega) | omega)))) hb1
  clear hc1 hf1 hb1
  have hz1_0_0 : w.heap.size < w1.heap.size := (by omega)
  go_wp2_with fail
  refine (narrow15_y _ c r x r0 r1 x0 x1 hx hh).mono ?_
  rintro e w2 ⟨rfl, hb2⟩
  obtain ⟨hc2, hf2⟩ := vbcell hb2
  have hz2 : w1.heap.size + 1 ≤ w2.heap.size := (by have h_ := hb2.size; (try simp only [World.size_alloc, World.size_setCell, World.size_drew, World.heap_drewN] at h_); omega)
  have hc2_0_0 := fun o => hc2 (w.heap.size) o (by (try simp only [World.size_alloc, World.size_setCell, World.size_drew, World.heap_drewN]); omega)
  have hf2_0_0 := fun o => hf2 (w.heap.size) o (by (try simp only [World.size_alloc, World.size_setCell, World.size_drew, World.heap_drewN]); omega)
  have hc2_1_0 := fun o => hc2 (w1.heap.size) o (by (try simp only [World.size_alloc, World.size_setCell, World.size_drew, World.heap_drewN]); omega)
  have hf2_1_0 := fun o => hf2 (w1.heap.size) o (by (try simp only [World.size_alloc, World.size_setCell, World.size_drew, World.heap_drewN]); omega)
  have HB2 : Below w.heap.size w w2 := vbelow_step (by repeat (first | (with_reducible exact Below.refl _ _) | (with_reducible exact HB1) | (with_reducible refine vbelow_alloc ?_ _) | (with_reducible refine vbelow_drew ?_) | (with_reducible refine vbelow_drewN ?_ _) | (with_reducible refine vbelow_set ?_ (by first | exact Nat.le_refl _ | (dsimp only; omega) | omega)))) hb2
  clear hc2 hf2 hb2 HB1
  have hz2_0_0 : w.heap.size < w2.heap.size := (by omega)
  have hz2_1_0 : w1.heap.size < w2.heap.size := (by omega)
  go_wp2_with fail
  refine (has16 _ r x r0 r1 x0 x1).mono ?_
  rintro e w3 ⟨rfl, hb3⟩
  obtain ⟨hc3, hf3⟩ := vbcell hb3
  have hz3 : w2.heap.size + 1 ≤ w3.heap.size := (by have h_ := hb3.size; (try simp only [World.size_alloc, World.size_setCell, World.size_drew, World.heap_drewN] at h_); omega)
  have hc3_0_0 := fun o => hc3 (w.heap.size) o (by (try simp only [World.size_alloc, World.size_setCell, World.size_drew, World.heap_drewN]); omega)
  have hf3_0_0 := fun o => hf3 (w.heap.size) o (by (try simp only [World.size_alloc, World.size_setCell, World.size_drew, World.heap_drewN]); omega)
  have hc3_1_0 := fun o => hc3 (w1.heap.size) o (by (try simp only [World.size_alloc, World.size_setCell, World.size_drew, World.heap_drewN]); omega)
  have hf3_1_0 := fun o => hf3 (w1.heap.size) o (by (try simp only [World.size_alloc, World.size_setCell, World.size_drew, World.heap_drewN]); omega)
  have hc3_2_0 := fun o => hc3 (w2.heap.size) o (by (try simp only [World.size_alloc, World.size_setCell, World.size_drew, World.heap_drewN]); omega)
  have hf3_2_0 := fun o => hf3 (w2.heap.size) o (by (try simp only [World.size_alloc, World.size_setCell, World.size_drew, World.heap_drewN]); omega)
  have HB3 : Below w.heap.size w w3 := vbelow_step (by repeat (first | (with_reducible exact Below.refl _ _) | (with_reducible exact HB2) | (with_reducible refine vbelow_alloc ?_ _) | (with_reducible refine vbelow_drew ?_) | (with_reducible refine vbelow_drewN ?_ _) | (with_reducible refine vbelow_set ?_ (by first | exact Nat.le_refl _ | (dsimp only; omega) | omega)))) hb3
  clear hc3 hf3 hb3 HB2
  have hz3_0_0 : w.heap.size < w3.heap.size := (by omega)
  have hz3_1_0 : w1.heap.size < w3.heap.size := (by omega)
  have hz3_2_0 : w2.heap.size < w3.heap.size := (by omega)
  go_wp2_with fail
  refine (alive10 _).mono ?_
  rintro e w4 ⟨rfl, hb4⟩
  obtain ⟨hc4, hf4⟩ := vbcell hb4
  have hz4 : w3.heap.size ≤ w4.heap.size := (by have h_ := hb4.size; (try simp only [World.size_alloc, World.size_setCell, World.size_drew, World.heap_drewN] at h_); omega)
  have hc4_0_0 := fun o => hc4 (w.heap.size) o (by (try simp only [World.size_alloc, World.size_setCell, World.size_drew, World.heap_drewN]); omega)
  have hf4_0_0 := fun o => hf4 (w.heap.size) o (by (try simp only [World.size_alloc, World.size_setCell, World.size_drew, World.heap_drewN]); omega)
  have hc4_1_0 := fun o => hc4 (w1.heap.size) o (by (try simp only [World.size_alloc, World.size_setCell, World.size_drew, World.heap_drewN]); omega)
  have hf4_1_0 := fun o => hf4 (w1.heap.size) o (by (try simp only [World.size_alloc, World.size_setCell, World.size_drew, World.heap_drewN]); omega)
  have hc4_2_0 := fun o => hc4 (w2.heap.size) o (by (try simp only [World.size_alloc, World.size_setCell, World.size_drew, World.heap_drewN]); omega)
  have hf4_2_0 := fun o => hf4 (w2.heap.size) o (by (try simp only [World.size_alloc, World.size_setCell, World.size_drew, World.heap_drewN]); omega)
  have HB4 : Below w.heap.size w w4 := vbelow_step (by repeat (first | (with_reducible exact Below.refl _ _) | (with_reducible exact HB3) | (with_reducible refine vbelow_alloc ?_ _) | (with_reducible refine vbelow_drew ?_) | (with_reducible refine vbelow_drewN ?_ _) | (with_reducible refine vbelow_set ?_ (by first | exact Nat.le_refl _ | (dsimp only; omega) | omega)))) hb4
  clear hc4 hf4 hb4 HB3
  have hz4_0_0 : w.heap.size < w4.heap.size := (by omega)
  have hz4_1_0 : w1.heap.size < w4.heap.size := (by omega)
  have hz4_2_0 : w2.heap.size < w4.heap.size := (by omega)
  go_wp2
  go_ret
  exact ⟨rfl, (by repeat (first | (with_reducible exact Below.refl _ _) | (with_reducible exact HB4) | (with_reducible refine vbelow_alloc ?_ _) | (with_reducible refine vbelow_drew ?_) | (with_reducible refine vbelow_drewN ?_ _) | (with_reducible refine vbelow_set ?_ (by first | exact Nat.le_refl _ | (dsimp only; omega) | omega))))⟩
theorem narrow4 (w : World) (c r x : Int) (r0 : 0 ≤ r) (r1 : r ≤ 255) (x0 : 0 ≤ x) (x1 : x ≤ 255) : Calls Try.prog 4 #[.agg #[.int .i64 c, .int .u8 r], .int .u8 x] w fun e w' => e = .returned (.bool true) ∧ Below w.heap.size w w' := by
  by_cases hx : x = 0
  · exact law4_z w c r x r0 r1 x0 x1 hx
  · cases hh : hasR r x with
    | false => exact law4_n w c r x r0 r1 x0 x1 hx hh
    | true => exact law4_y w c r x r0 r1 x0 x1 hx hh
end Go.Proofs.Ytcpaakhmcpeagaa.Q
