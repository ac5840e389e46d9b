/- Layer 2, plain: closures, joins and turned policies. -/
import Derived.Test.YtlbjcmiegbejdaaP3
namespace Go.Proofs.Ytlbjcmiegbejdaa.Q
open Go.RowKit Go.Proofs.YtlbjcmiegbejdaaW.PrintWords Go.Proofs.YtlbjcmiegbejdaaW.PrintMore Go.Proofs.YtlbjcmiegbejdaaW.PrintLast Go.Proofs.Ytlbjcmiegbejdaa.Bm
set_option linter.unusedVariables false
set_option linter.unusedSimpArgs false
theorem bit_lt {s n i : Nat} (h : s < 2 ^ n) (hb : s.testBit i = true) : i < n := by
  apply Nat.lt_of_not_le
  intro hle
  rw [Nat.testBit_lt_two_pow (Nat.lt_of_lt_of_le h (Nat.pow_le_pow_right (by decide) hle))] at hb
  cases hb
theorem shp_rows {G : Nat → Nat} {n : Nat} (h0 : 0 < n) (hn : n ≤ 16) (h : ∀ i, i < n → G i < 2 ^ n) : shp (rowsI G n) = 0 := by
  unfold shp
  rw [rowsI_len, if_neg (by omega), if_neg (by omega)]
  exact ofR_rows (by omega) h
theorem chk_of {l : List Int} (hs : shp l = 0) (hP : Pol (rowsF l) l.length) : chk l = 0 := by
  unfold chk
  rw [if_pos hs, if_pos hP]
/-! ### joins -/
/-- x is a join of a and b. -/
def IsJoin (R : Nat → Nat) (n a b x : Nat) : Prop := x < n ∧ (R a).testBit x = true ∧ (R b).testBit x = true ∧ ∀ d, (R a).testBit d = true → (R b).testBit d = true → (R x).testBit d = true
theorem and_self_iff {u v : Nat} : u &&& v = u ↔ ∀ d, u.testBit d = true → v.testBit d = true := by
  constructor
  · intro h d hd
    rw [← h, Nat.testBit_and, Bool.and_eq_true] at hd
    exact hd.2
  · intro h
    apply Nat.eq_of_testBit_eq
    intro d
    rw [Nat.testBit_and]
    cases hd : u.testBit d with
    | false => rfl
    | true => rw [h d hd]; rfl
theorem jst_bit_gen {m : Nat} (R : Nat → Nat) (u : Nat) (i : Nat) : ∀ (pre : List (Fin m)) (o : Nat), (pre.foldl (fun o x => if u.testBit x.val = true ∧ u &&& R x.val = u then o ||| 2 ^ x.val else o) o).testBit i = true ↔ o.testBit i = true ∨ ∃ x ∈ pre, x.val = i ∧ u.testBit x.val = true ∧ u &&& R x.val = u := by
  intro pre
  induction pre with
  | nil => intro o; simp
  | cons x t ih =>
    intro o
    rw [List.foldl_cons, ih]
    by_cases hc : u.testBit x.val = true ∧ u &&& R x.val = u
    · rw [if_pos hc, Nat.testBit_or, Bool.or_eq_true, Nat.testBit_two_pow]
      constructor
      · rintro ((h | h) | ⟨y, hy, h⟩)
        · exact .inl h
        · exact .inr ⟨x, by simp, of_decide_eq_true h, hc⟩
        · exact .inr ⟨y, by simp [hy], h⟩
      · rintro (h | ⟨y, hy, h1, h2⟩)
        · exact .inl (.inl h)
        · rcases List.mem_cons.1 hy with rfl | hy
          · exact .inl (.inr (decide_eq_true h1))
          · exact .inr ⟨y, hy, h1, h2⟩
    · rw [if_neg hc]
      constructor
      · rintro (h | ⟨y, hy, h⟩)
        · exact .inl h
        · exact .inr ⟨y, by simp [hy], h⟩
      · rintro (h | ⟨y, hy, h1, h2⟩)
        · exact .inl h
        · rcases List.mem_cons.1 hy with rfl | hy
          · exact absurd h2 hc
          · exact .inr ⟨y, hy, h1, h2⟩
/-- The joins of a and b, as a set. -/
def jnS (l : List Int) (a b : Nat) : Nat := jst (rowsF l) (rowsF l a &&& rowsF l b) (labs l.length l.length)
theorem jnF_nat (l : List Int) (a b : Nat) : jnF l (a : Int) (b : Int) = ((jnS l a b : Nat) : Int) := rfl
theorem jnS_bit {l : List Int} {a b x : Nat} : (jnS l a b).testBit x = true ↔ IsJoin (rowsF l) l.length a b x := by
  unfold jnS jst
  rw [jst_bit_gen, Nat.zero_testBit]
  constructor
  · rintro (h | ⟨y, _, rfl, h1, h2⟩)
    · cases h
    · rw [Nat.testBit_and, Bool.and_eq_true] at h1
      exact ⟨y.2, h1.1, h1.2, fun d ha hb => and_self_iff.1 h2 d (by rw [Nat.testBit_and, ha, hb]; rfl)⟩
  · rintro ⟨hx, ha, hb, hd⟩
    refine .inr ⟨⟨x, hx⟩, mem_labs _, rfl, by rw [Nat.testBit_and, ha, hb]; rfl, and_self_iff.2 fun d h => ?_⟩
    rw [Nat.testBit_and, Bool.and_eq_true] at h
    exact hd d h.1 h.2
/-! ### turned around -/
theorem turnL_rows {l : List Int} {j : Nat} (hj : j < l.length) : rowsF (turnL l) j = turnK (rowsF l) l.length j := rowsF_I hj
theorem turnL_bit {l : List Int} {i j : Nat} (hj : j < l.length) : (rowsF (turnL l) j).testBit i = (decide (i < l.length) && (rowsF l i).testBit j) := by rw [turnL_rows hj, turnK_bit]
end Go.Proofs.Ytlbjcmiegbejdaa.Q
