/- Layer 1, plain: words for the laws over relations. -/
import Derived.Test.YtbbmibabjffcaaaP4
namespace Go.Proofs.Ytbbmibabjffcaaa.Q
open Go.RowKit Go.Proofs.YtbbmibabjffcaaaW.PrintWords Go.Proofs.YtbbmibabjffcaaaW.PrintMore Go.Proofs.YtbbmibabjffcaaaW.PrintLast Go.Proofs.Ytbbmibabjffcaaa.Bm
set_option linter.unusedVariables false
set_option linter.unusedSimpArgs false
theorem okUb_take {l : List Int} (h : ∀ x ∈ l, (Lit.int .u64 x).wf = true) : okUb (l.take 66) = true := by
  unfold okUb
  rw [List.all_eq_true]
  intro x hx
  obtain ⟨s, rfl, hs⟩ := u_nat (h x (List.mem_of_mem_take hx))
  simp
  omega
theorem take_len (l : List Int) : (l.take 66).length ≤ 66 := by rw [List.length_take]; omega
theorem check_b {l : List Int} (h : okUb l = true) : bits_Check.f l = some (ofR l).2.2 := if_pos h
theorem turn_b {l : List Int} (h : okUb l = true) : bits_Turn.f l = some (turnR l) := by
  unfold bits_Turn.f turnR
  rw [if_pos h]
  split <;> rfl
theorem closure_b {l : List Int} (h : okUb l = true) : bits_Closure.f l = some (closureR l) := by
  unfold bits_Closure.f closureR
  rw [if_pos h]
  split <;> rfl
theorem then_b {l m : List Int} (h : okUb l = true) (h' : okUb m = true) : bits_Then.f l m = some (thenR l m) := by
  unfold bits_Then.f thenR
  rw [if_pos h, if_pos h']
  split
  · split
    · split <;> rfl
    · rfl
  · rfl
theorem reach_b {l : List Int} (h : okUb l = true) (i : Int) : bits_Reach.f l i = some (reachR l i) := by
  unfold bits_Reach.f reachR
  rw [if_pos h]
  split
  · split <;> rfl
  · rfl
theorem turnR_len {l : List Int} (h : l.length ≤ 66) : (turnR l).1.length < 1000000 := by
  unfold turnR
  split
  · rw [rowsI_len]; omega
  · simp
theorem closureR_len {l : List Int} (h : l.length ≤ 66) : (closureR l).1.length < 1000000 := by
  unfold closureR
  split
  · rw [rowsI_len]; omega
  · simp
theorem thenR_len {l m : List Int} (h : l.length ≤ 66) : (thenR l m).1.length < 1000000 := by
  unfold thenR
  split
  · split
    · split
      · rw [rowsI_len]; omega
      · simp
    · simp
  · simp
/-! ### Rows of numbers as rows of sets -/
theorem rowsF_I {G : Nat → Nat} {n i : Nat} (hi : i < n) : rowsF (rowsI G n) i = G i := by
  unfold rowsF rowsI
  rw [List.getD_eq_getElem?_getD, List.getElem?_map, List.getElem?_range hi]
  simp
theorem rowsF_out {l : List Int} {i : Nat} (hi : l.length ≤ i) : rowsF l i = 0 := by
  unfold rowsF
  rw [List.getD_eq_getElem?_getD, List.getElem?_eq_none hi]
  rfl
theorem okUb_rows {G : Nat → Nat} {n : Nat} (h : ∀ i, i < n → G i < 2 ^ 64) : okUb (rowsI G n) = true := by
  unfold okUb rowsI
  rw [List.all_eq_true]
  intro x hx
  obtain ⟨i, hi, rfl⟩ := List.mem_map.1 hx
  have := h i (List.mem_range.1 hi)
  simp
  omega
theorem ofR_rows {G : Nat → Nat} {n : Nat} (hn : n ≤ 64) (h : ∀ i, i < n → G i < 2 ^ n) : (ofR (rowsI G n)).2.2 = 0 := by
  unfold ofR
  rw [rowsI_len, if_neg (by omega), if_pos (okRel_iff.2 fun i hi => by rw [rowsF_I hi]; exact h i hi)]
theorem pow64 {n s : Nat} (hn : n ≤ 64) (h : s < 2 ^ n) : s < 2 ^ 64 := Nat.lt_of_lt_of_le h (Nat.pow_le_pow_right (by decide) hn)
theorem turnK_n (R : Nat → Nat) (n j : Nat) : turnK R n j < 2 ^ n := ofP_lt _ n
theorem turnK_ext {R R' : Nat → Nat} {n : Nat} (h : ∀ i, i < n → R i = R' i) (j : Nat) : turnK R n j = turnK R' n j :=
  bits_eq n (turnK_n _ _ _) (turnK_n _ _ _) fun i hi => by unfold turnK; rw [testBit_ofP, testBit_ofP, h i hi]
theorem turnK_bit (R : Nat → Nat) (n i j : Nat) : (turnK R n j).testBit i = (decide (i < n) && (R i).testBit j) := by unfold turnK; rw [testBit_ofP]
theorem turn_twice {R : Nat → Nat} {n i : Nat} (hi : i < n) (h : R i < 2 ^ n) : turnK (turnK R n) n i = R i :=
  bits_eq n (turnK_n _ _ _) h fun j hj => by rw [turnK_bit, turnK_bit]; simp [hi, hj]
theorem orAll_ltn {R : Nat → Nat} {n : Nat} (l : List (Fin 64)) (h : ∀ x ∈ l, R x.val < 2 ^ n) : orAll R l < 2 ^ n := by
  refine Nat.lt_pow_two_of_testBit _ fun i hi => ?_
  cases hb : (orAll R l).testBit i
  · rfl
  · obtain ⟨x, hx, hx'⟩ := (testBit_orAll R l i).1 hb
    rw [Nat.testBit_lt_two_pow (Nat.lt_of_lt_of_le (h x hx) (Nat.pow_le_pow_right (by decide) hi))] at hx'
    cases hx'
theorem then_ltn {M O : Nat → Nat} {n i : Nat} (hn : n ≤ 64) (hi : i < n) (hM : M i < 2 ^ n) (hO : ∀ j, j < n → O j < 2 ^ n) : thenK M O n i < 2 ^ n := by
  unfold thenK
  rw [if_pos hi, pfx_full hM hn]
  exact orAll_ltn _ fun x hx => hO _ ((pfx_mem _ _).1 hx).1
theorem then_bit {M O : Nat → Nat} {n i k : Nat} (hn : n ≤ 64) (hi : i < n) (hM : M i < 2 ^ n) : (thenK M O n i).testBit k = true ↔ ∃ j, j < n ∧ (M i).testBit j = true ∧ (O j).testBit k = true := by
  unfold thenK
  rw [if_pos hi, pfx_full hM hn, testBit_orAll]
  constructor
  · rintro ⟨x, hx, h⟩
    have := (pfx_mem _ _).1 hx
    exact ⟨x.val, this.1, this.2, h⟩
  · rintro ⟨j, hj, h1, h2⟩
    exact ⟨⟨j, by omega⟩, (pfx_mem _ _).2 ⟨hj, h1⟩, h2⟩
theorem then_turned {M O : Nat → Nat} {n i : Nat} (hn : n ≤ 64) (hi : i < n) (hM : ∀ j, j < n → M j < 2 ^ n) (hO : ∀ j, j < n → O j < 2 ^ n) : turnK (thenK M O n) n i = thenK (turnK O n) (turnK M n) n i := by
  refine bits_eq n (turnK_n _ _ _) (then_ltn hn hi (turnK_n _ _ _) (fun j _ => turnK_n _ _ _)) fun k hk => ?_
  rw [Bool.eq_iff_iff, then_bit hn hi (turnK_n _ _ _), turnK_bit, Bool.and_eq_true, decide_eq_true_iff, then_bit hn hk (hM k hk)]
  constructor
  · rintro ⟨_, j, hj, h1, h2⟩
    exact ⟨j, hj, by rw [turnK_bit]; simp [hj, h2], by rw [turnK_bit]; simp [hk, h1]⟩
  · rintro ⟨j, hj, h1, h2⟩
    rw [turnK_bit, Bool.and_eq_true, decide_eq_true_iff] at h1 h2
    exact ⟨hk, j, hj, h2.2, h1.2⟩
theorem thenK_ext {M M' O O' : Nat → Nat} {n i : Nat} (hn : n ≤ 64) (hi : i < n) (hM : M i < 2 ^ n) (h : ∀ i, i < n → M i = M' i) (h' : ∀ i, i < n → O i = O' i) : thenK M O n i = thenK M' O' n i := by
  have hM' : M' i < 2 ^ n := by rw [← h i hi]; exact hM
  apply Nat.eq_of_testBit_eq
  intro k
  rw [Bool.eq_iff_iff, then_bit hn hi hM, then_bit hn hi hM']
  constructor
  · rintro ⟨j, hj, h1, h2⟩
    exact ⟨j, hj, by rw [← h i hi]; exact h1, by rw [← h' j hj]; exact h2⟩
  · rintro ⟨j, hj, h1, h2⟩
    exact ⟨j, hj, by rw [h i hi]; exact h1, by rw [h' j hj]; exact h2⟩
end Go.Proofs.Ytbbmibabjffcaaa.Q
