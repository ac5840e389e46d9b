/- Plain words on sets of small numbers as numbers, and on closures of relations by way of each member. No program here. -/
namespace Go.Proofs.Ytlbjcmiegbejdaa.Bm
/-- The number whose bits below n are those that p tells. -/
def ofP (p : Nat → Bool) : Nat → Nat
  | 0 => 0
  | n + 1 => ofP p n + (if p n then 2 ^ n else 0)
theorem ofP_lt (p : Nat → Bool) : ∀ n, ofP p n < 2 ^ n
  | 0 => by simp [ofP]
  | n + 1 => by
    have h := ofP_lt p n
    have e : 2 ^ (n + 1) = 2 ^ n + 2 ^ n := by rw [Nat.pow_succ]; omega
    simp only [ofP]
    split <;> omega
theorem add_two_pow_or {a n : Nat} (h : a < 2 ^ n) : a + 2 ^ n = a ||| 2 ^ n := by
  have := Nat.two_pow_add_eq_or_of_lt h 1
  rw [Nat.mul_one] at this
  rw [Nat.add_comm, this]
  apply Nat.eq_of_testBit_eq
  intro i
  rw [Nat.testBit_or, Nat.testBit_or, Bool.or_comm]
theorem testBit_ofP (p : Nat → Bool) : ∀ n i, (ofP p n).testBit i = (decide (i < n) && p i)
  | 0, i => by simp [ofP]
  | n + 1, i => by
    have ih := testBit_ofP p n i
    have hl := ofP_lt p n
    simp only [ofP]
    by_cases hp : p n
    · rw [if_pos hp, add_two_pow_or hl, Nat.testBit_or, ih, Nat.testBit_two_pow]
      by_cases hi : i < n
      · have : n ≠ i := by omega
        simp [hi, this, show i < n + 1 by omega]
      · by_cases he : n = i
        · subst he; simp [hp]
        · simp [hi, he, show ¬ i < n + 1 by omega]
    · rw [if_neg hp, Nat.add_zero, ih]
      by_cases hi : i < n
      · simp [hi, show i < n + 1 by omega]
      · by_cases he : n = i
        · subst he; simp [hp]
        · simp [hi, show ¬ i < n + 1 by omega]
theorem bits_eq {a b : Nat} (n : Nat) (ha : a < 2 ^ n) (hb : b < 2 ^ n) (h : ∀ i, i < n → a.testBit i = b.testBit i) : a = b := by
  apply Nat.eq_of_testBit_eq
  intro i
  by_cases hi : i < n
  · exact h i hi
  · have hp : 2 ^ n ≤ 2 ^ i := Nat.pow_le_pow_right (by decide) (by omega)
    rw [Nat.testBit_lt_two_pow (Nat.lt_of_lt_of_le ha hp), Nat.testBit_lt_two_pow (Nat.lt_of_lt_of_le hb hp)]
/-- One round of the closure: rows that have w get w's row. -/
def winner (R : Nat → Nat) (w m : Nat) : Nat → Nat := fun i => if i < m ∧ (R i).testBit w = true then R i ||| R w else R i
def wstart (R : Nat → Nat) (m : Nat) : Nat → Nat := fun i => if i < m then R i ||| 2 ^ i else R i
def wouter (R : Nat → Nat) (n : Nat) : Nat → (Nat → Nat)
  | 0 => wstart R n
  | w + 1 => winner (wouter R n w) w n
theorem winner_self (R : Nat → Nat) (w m : Nat) : winner R w m w = R w := by
  unfold winner; split
  · simp
  · rfl
theorem winner_step (R : Nat → Nat) (w m : Nat) : winner R w (m + 1) = fun i => if i = m then (if (winner R w m m).testBit w then winner R w m m ||| winner R w m w else winner R w m m) else winner R w m i := by
  funext i
  by_cases hi : i = m
  · subst hi
    have e : winner R w i i = R i := by unfold winner; rw [if_neg (by omega)]
    rw [if_pos rfl, e, winner_self]
    unfold winner
    by_cases hb : (R i).testBit w = true
    · rw [if_pos ⟨by omega, hb⟩, if_pos hb]
    · rw [if_neg (fun h => hb h.2), if_neg hb]
  · rw [if_neg hi]
    unfold winner
    by_cases hm : i < m
    · simp [hm, show i < m + 1 by omega]
    · simp [hm, show ¬ i < m + 1 by omega]
theorem wouter_lt {R : Nat → Nat} {n b : Nat} (hnb : n ≤ b) (h : ∀ i, R i < 2 ^ b) : ∀ w i, wouter R n w i < 2 ^ b
  | 0, i => by
    unfold wouter wstart
    split
    · exact Nat.or_lt_two_pow (h i) (Nat.pow_lt_pow_right (by decide) (by omega))
    · exact h i
  | w + 1, i => by
    unfold wouter winner
    split
    · exact Nat.or_lt_two_pow (wouter_lt hnb h w i) (wouter_lt hnb h w w)
    · exact wouter_lt hnb h w i
theorem T_succ {R : Nat → Nat} {n w i k : Nat} (hi : i < n) : (wouter R n (w + 1) i).testBit k = ((wouter R n w i).testBit k || ((wouter R n w i).testBit w && (wouter R n w w).testBit k)) := by
  show (winner (wouter R n w) w n i).testBit k = _
  unfold winner
  by_cases hb : (wouter R n w i).testBit w = true
  · rw [if_pos ⟨hi, hb⟩, Nat.testBit_or, hb]; simp
  · rw [if_neg (fun h => hb h.2)]; simp [hb]
theorem T_mid {R : Nat → Nat} {n : Nat} : ∀ w, w ≤ n → ∀ i j k, i < n → j < w → (wouter R n w i).testBit j = true → (wouter R n w j).testBit k = true → (wouter R n w i).testBit k = true
  | 0, _, _, _, _, _, hj, _, _ => absurd hj (by omega)
  | w + 1, hw, i, j, k, hi, hj, h1, h2 => by
    have ih := T_mid (R := R) (n := n) w (by omega)
    rw [T_succ hi] at h1 ⊢
    rw [T_succ (by omega)] at h2
    simp only [Bool.or_eq_true, Bool.and_eq_true] at h1 h2 ⊢
    by_cases hjw : j = w
    · subst hjw
      have a : (wouter R n j i).testBit j = true := by rcases h1 with h | h; exact h; exact h.1
      have b : (wouter R n j j).testBit k = true := by rcases h2 with h | h; exact h; exact h.2
      exact .inr ⟨a, b⟩
    · have hjl : j < w := by omega
      rcases h1 with h1 | ⟨h1, h1'⟩
      · rcases h2 with h2 | ⟨h2, h2'⟩
        · exact .inl (ih i j k hi hjl h1 h2)
        · exact .inr ⟨ih i j w hi hjl h1 h2, h2'⟩
      · rcases h2 with h2 | ⟨h2, h2'⟩
        · exact .inr ⟨h1, ih w j k (by omega) hjl h1' h2⟩
        · exact .inr ⟨h1, h2'⟩
theorem T_mono {R : Nat → Nat} {n i k : Nat} (hi : i < n) (h : (wstart R n i).testBit k = true) : ∀ w, (wouter R n w i).testBit k = true
  | 0 => h
  | w + 1 => by rw [T_succ hi, T_mono hi h w]; rfl
theorem T_refl {R : Nat → Nat} {n i : Nat} (hi : i < n) (w : Nat) : (wouter R n w i).testBit i = true :=
  T_mono hi (by unfold wstart; rw [if_pos hi, Nat.testBit_or, Nat.testBit_two_pow]; simp) w
theorem T_base {R : Nat → Nat} {n i k : Nat} (hi : i < n) (h : (R i).testBit k = true) (w : Nat) : (wouter R n w i).testBit k = true :=
  T_mono hi (by unfold wstart; rw [if_pos hi, Nat.testBit_or, h]; rfl) w
theorem T_least {R : Nat → Nat} {n : Nat} (S : Nat → Nat → Prop) (hr : ∀ i, i < n → S i i) (hb : ∀ i k, i < n → (R i).testBit k = true → S i k) (ht : ∀ i j k, i < n → j < n → S i j → S j k → S i k) :
    ∀ w, w ≤ n → ∀ i k, i < n → (wouter R n w i).testBit k = true → S i k
  | 0, _, i, k, hi, h => by
    have h' : (wstart R n i).testBit k = true := h
    unfold wstart at h'
    rw [if_pos hi, Nat.testBit_or, Nat.testBit_two_pow] at h'
    simp only [Bool.or_eq_true, decide_eq_true_eq] at h'
    rcases h' with h' | h'
    · exact hb i k hi h'
    · subst h'; exact hr i hi
  | w + 1, hw, i, k, hi, h => by
    have ih := T_least S hr hb ht w (by omega)
    rw [T_succ hi] at h
    simp only [Bool.or_eq_true, Bool.and_eq_true] at h
    rcases h with h | ⟨h1, h2⟩
    · exact ih i k hi h
    · exact ht i w k hi (by omega) (ih i w hi h1) (ih w k (by omega) h2)
/-- A set that has, with a member, all of that member's row. -/
def Closed (R : Nat → Nat) (n C : Nat) : Prop := ∀ i, i < n → C.testBit i = true → ∀ k, (R i).testBit k = true → C.testBit k = true
theorem T_closed {R : Nat → Nat} {n i : Nat} (hi : i < n) : Closed R n (wouter R n n i) := fun j hj h k hk => T_mid n (Nat.le_refl _) i j k hi hj h (T_base hj hk n)
theorem T_in {R : Nat → Nat} {n i k C : Nat} (hi : i < n) (h : (wouter R n n i).testBit k = true) (hC : Closed R n C) (hCi : C.testBit i = true) : C.testBit k = true :=
  T_least (R := R) (n := n) (fun i k => ∀ C, Closed R n C → C.testBit i = true → C.testBit k = true) (fun _ _ _ _ h => h) (fun i k hi hk _ hC hCi => hC i hi hCi k hk) (fun _ _ _ _ _ h1 h2 C hC hCi => h2 C hC (h1 C hC hCi)) n (Nat.le_refl _) i k hi h C hC hCi
/-- A closed set with i, no greater than any other such, is i's row of the closure. -/
theorem T_unique {R : Nat → Nat} {n i C : Nat} (hi : i < n) (hC : Closed R n C) (hCi : C.testBit i = true) (hl : ∀ D, Closed R n D → D.testBit i = true → ∀ k, C.testBit k = true → D.testBit k = true) : C = wouter R n n i := by
  apply Nat.eq_of_testBit_eq
  intro k
  rw [Bool.eq_iff_iff]
  exact ⟨fun h => hl _ (T_closed hi) (T_refl hi n) k h, fun h => T_in hi h hC hCi⟩
end Go.Proofs.Ytlbjcmiegbejdaa.Bm
