/- Layer 2, plain: closures, joins and turned policies. -/
import Derived.Test.YtlbjcmiegbejdaaP3
namespace Go.Proofs.Ytlbjcmiegbejdaa.Q
open Go.RowKit Go.Proofs.YtlbjcmiegbejdaaW.PrintWords Go.Proofs.YtlbjcmiegbejdaaW.PrintMore Go.Proofs.YtlbjcmiegbejdaaW.PrintLast Go.Proofs.Ytlbjcmiegbejdaa.Bm
set_option linter.unusedVariables false
set_option linter.unusedSimpArgs false
theorem bit_lt {s n i : Nat} (h : s < 2 ^ n) (hb : s.testBit i = true) : i < n := by
  apply Nat.lt_of_not_le
  intro hle
  rw [Nat.testBit_lt_two_pow (Nat.lt_of_lt_of_le h (Nat.pow_le_pow_right (by decide) hle))] at hb
  cases hb
theorem rows_all {l : List Int} (hs : shp l = 0) (i : Nat) : rowsF l i < 2 ^ l.length := by
  by_cases hi : i < l.length
  · exact (shp_zero hs).2.2.2 i hi
  · rw [rowsF_out (by omega)]
    exact Nat.two_pow_pos _
theorem closure_ltn {l : List Int} (hs : shp l = 0) (i : Nat) : closureF l i < 2 ^ l.length := wouter_lt (Nat.le_refl _) (rows_all hs) _ _
theorem closure_pol {l : List Int} (hs : shp l = 0) : Pol (closureF l) l.length := by
  intro a ha
  exact ⟨T_refl ha _, fun b hb hab c hbc => T_mid l.length (Nat.le_refl _) a b c ha hb hab hbc⟩
theorem shp_rows {G : Nat → Nat} {n : Nat} (h0 : 0 < n) (hn : n ≤ 16) (h : ∀ i, i < n → G i < 2 ^ n) : shp (rowsI G n) = 0 := by
  unfold shp
  rw [rowsI_len, if_neg (by omega), if_neg (by omega)]
  exact ofR_rows (by omega) h
theorem pol_ext {R S : Nat → Nat} {n : Nat} (h : ∀ i, i < n → R i = S i) (hP : Pol R n) : Pol S n := by
  intro a ha
  have := hP a ha
  refine ⟨by rw [← h a ha]; exact this.1, fun b hb hab c hbc => ?_⟩
  rw [← h a ha] at hab ⊢
  rw [← h b hb] at hbc
  exact this.2 b hb hab c hbc
theorem chk_of {l : List Int} (hs : shp l = 0) (hP : Pol (rowsF l) l.length) : chk l = 0 := by
  unfold chk
  rw [if_pos hs, if_pos hP]
theorem chk_rows {G : Nat → Nat} {n : Nat} (h0 : 0 < n) (hn : n ≤ 16) (h : ∀ i, i < n → G i < 2 ^ n) (hP : Pol G n) : chk (rowsI G n) = 0 := by
  refine chk_of (shp_rows h0 hn h) ?_
  rw [rowsI_len]
  exact pol_ext (fun i hi => (rowsF_I hi).symm) hP
/-! ### joins -/
/-- x is a join of a and b. -/
def IsJoin (R : Nat → Nat) (n a b x : Nat) : Prop := x < n ∧ (R a).testBit x = true ∧ (R b).testBit x = true ∧ ∀ d, (R a).testBit d = true → (R b).testBit d = true → (R x).testBit d = true
theorem and_self_iff {u v : Nat} : u &&& v = u ↔ ∀ d, u.testBit d = true → v.testBit d = true := by
  constructor
  · intro h d hd
    rw [← h, Nat.testBit_and, Bool.and_eq_true] at hd
    exact hd.2
  · intro h
    apply Nat.eq_of_testBit_eq
    intro d
    rw [Nat.testBit_and]
    cases hd : u.testBit d with
    | false => rfl
    | true => rw [h d hd]; rfl
theorem jst_bit_gen {m : Nat} (R : Nat → Nat) (u : Nat) (i : Nat) : ∀ (pre : List (Fin m)) (o : Nat), (pre.foldl (fun o x => if u.testBit x.val = true ∧ u &&& R x.val = u then o ||| 2 ^ x.val else o) o).testBit i = true ↔ o.testBit i = true ∨ ∃ x ∈ pre, x.val = i ∧ u.testBit x.val = true ∧ u &&& R x.val = u := by
  intro pre
  induction pre with
  | nil => intro o; simp
  | cons x t ih =>
    intro o
    rw [List.foldl_cons, ih]
    by_cases hc : u.testBit x.val = true ∧ u &&& R x.val = u
    · rw [if_pos hc, Nat.testBit_or, Bool.or_eq_true, Nat.testBit_two_pow]
      constructor
      · rintro ((h | h) | ⟨y, hy, h⟩)
        · exact .inl h
        · exact .inr ⟨x, by simp, of_decide_eq_true h, hc⟩
        · exact .inr ⟨y, by simp [hy], h⟩
      · rintro (h | ⟨y, hy, h1, h2⟩)
        · exact .inl (.inl h)
        · rcases List.mem_cons.1 hy with rfl | hy
          · exact .inl (.inr (decide_eq_true h1))
          · exact .inr ⟨y, hy, h1, h2⟩
    · rw [if_neg hc]
      constructor
      · rintro (h | ⟨y, hy, h⟩)
        · exact .inl h
        · exact .inr ⟨y, by simp [hy], h⟩
      · rintro (h | ⟨y, hy, h1, h2⟩)
        · exact .inl h
        · rcases List.mem_cons.1 hy with rfl | hy
          · exact absurd h2 hc
          · exact .inr ⟨y, hy, h1, h2⟩
/-- The joins of a and b, as a set. -/
def jnS (l : List Int) (a b : Nat) : Nat := jst (rowsF l) (rowsF l a &&& rowsF l b) (labs l.length l.length)
theorem jnF_nat (l : List Int) (a b : Nat) : jnF l (a : Int) (b : Int) = ((jnS l a b : Nat) : Int) := rfl
theorem jnS_bit {l : List Int} {a b x : Nat} : (jnS l a b).testBit x = true ↔ IsJoin (rowsF l) l.length a b x := by
  unfold jnS jst
  rw [jst_bit_gen, Nat.zero_testBit]
  constructor
  · rintro (h | ⟨y, _, rfl, h1, h2⟩)
    · cases h
    · rw [Nat.testBit_and, Bool.and_eq_true] at h1
      exact ⟨y.2, h1.1, h1.2, fun d ha hb => and_self_iff.1 h2 d (by rw [Nat.testBit_and, ha, hb]; rfl)⟩
  · rintro ⟨hx, ha, hb, hd⟩
    refine .inr ⟨⟨x, hx⟩, mem_labs _, rfl, by rw [Nat.testBit_and, ha, hb]; rfl, and_self_iff.2 fun d h => ?_⟩
    rw [Nat.testBit_and, Bool.and_eq_true] at h
    exact hd d h.1 h.2
theorem jnS_lt (l : List Int) (a b : Nat) : jnS l a b < 2 ^ l.length := by
  apply Nat.lt_pow_two_of_testBit
  intro i hi
  cases hb : (jnS l a b).testBit i with
  | false => rfl
  | true =>
    have := (jnS_bit.1 hb).1
    omega
/-! ### turned around -/
theorem turnL_rows {l : List Int} {j : Nat} (hj : j < l.length) : rowsF (turnL l) j = turnK (rowsF l) l.length j := rowsF_I hj
theorem turnL_bit {l : List Int} {i j : Nat} (hj : j < l.length) : (rowsF (turnL l) j).testBit i = (decide (i < l.length) && (rowsF l i).testBit j) := by rw [turnL_rows hj, turnK_bit]
theorem turnL_twice {l : List Int} (h : okUb l = true) (hs : shp l = 0) : turnL (turnL l) = l := by
  have h1 := rowsI_F (okU_of h)
  have h2 := turnL_len l
  unfold turnL at *
  rw [h2]
  refine Eq.trans (rowsI_ext fun i hi => ?_) h1
  rw [turnK_ext (fun i hi => rowsF_I hi) i]
  exact turn_twice hi ((shp_zero hs).2.2.2 i hi)
theorem turnL_pol {R : Nat → Nat} {n : Nat} (hP : Pol R n) (hR : ∀ i, i < n → R i < 2 ^ n) : Pol (turnK R n) n := by
  intro a ha
  constructor
  · rw [turnK_bit, decide_eq_true ha, (hP a ha).1]; rfl
  · intro b hb hab c hbc
    rw [turnK_bit, Bool.and_eq_true] at hab hbc ⊢
    have hc := of_decide_eq_true hbc.1
    exact ⟨hbc.1, (hP c hc).2 b hb hbc.2 a hab.2⟩
theorem turnL_chk {l : List Int} (hc : chk l = 0) : chk (turnL l) = 0 := by
  obtain ⟨hs, hP⟩ := chk_zero hc
  obtain ⟨h16, h0, _, hn⟩ := shp_zero hs
  exact chk_rows h0 h16 (fun i _ => turnK_n _ _ _) (turnL_pol hP hn)
end Go.Proofs.Ytlbjcmiegbejdaa.Q
