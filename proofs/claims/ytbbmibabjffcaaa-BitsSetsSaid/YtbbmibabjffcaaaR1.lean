/- Layer 1, plain: what the reference's functions over sets answer. -/
import Derived.Test.YtbbmibabjffcaaaQx
import Derived.Test.YtbbmibabjffcaaaB10
import Derived.Test.YtbbmibabjffcaaaB7
namespace Go.Proofs.Ytbbmibabjffcaaa.Q
open Go.RowKit Go.Proofs.YtbbmibabjffcaaaW.PrintWords Go.Proofs.YtbbmibabjffcaaaW.PrintMore Go.Proofs.YtbbmibabjffcaaaW.PrintLast
set_option linter.unusedVariables false
set_option linter.unusedSimpArgs false
theorem w64_inc {i : Nat} (h : i < 1000000) : wrap64 ((i : Int) + 1) = ((i + 1 : Nat) : Int) := by unfold wrap64; omega
theorem w64_dec {i : Nat} (h : i < 1000000) : wrap64 (((i + 1 : Nat) : Int) - 1) = (i : Int) := by unfold wrap64; omega
theorem wu64 {n : Int} (h0 : 0 ≤ n) (h1 : n < 18446744073709551616) : IntKind.u64.wrap n = n := by simp [IntKind.wrap, IntKind.bits, IntKind.signed]; omega
theorem half {s : Nat} (hs : s < 2 ^ 64) : IntKind.u64.wrap (Int.tdiv (s : Int) 2) = ((s / 2 : Nat) : Int) := by
  rw [Int.tdiv_eq_ediv_of_nonneg (by omega), wu64 (by omega) (by omega)]
  omega
theorem has_l0 : ∀ (i s : Nat), s < 2 ^ 64 → i < 64 → Ev (fun k => rampartref01_Has.l0 k (s : Int) (i : Int)) (s.testBit i)
  | 0, s, hs, _ => by
    refine Ev.step (f := fun _ => some (s.testBit 0)) (fun k => ?_) (Ev.now _)
    simp only [rampartref01_Has.l0]
    rw [if_neg (by omega)]
    congr 1
    rw [Nat.testBit_zero, Bool.eq_iff_iff, beq_iff_eq, decide_eq_true_iff, Int.tmod_eq_emod_of_nonneg (by omega)]
    omega
  | i + 1, s, hs, hi => by
    rw [Nat.testBit_succ]
    refine Ev.step (f := fun k => rampartref01_Has.l0 k ((s / 2 : Nat) : Int) (i : Int)) (fun k => ?_) (has_l0 i (s / 2) (by omega) (by omega))
    simp only [rampartref01_Has.l0]
    rw [if_pos (by omega), half hs, w64_dec (by omega)]
theorem has_ev {s : Nat} (hs : s < 2 ^ 64) (i : Int) : Ev (fun k => rampartref01_Has.f k (s : Int) i) (hasB s i) := by
  unfold rampartref01_Has.f hasB
  by_cases h0 : i < 0
  · have e : (decide (0 ≤ i) && decide (i < 64) && s.testBit i.toNat) = false := by simp; omega
    rw [e]
    refine Ev.step (f := fun _ => some false) (fun k => ?_) (Ev.now _)
    simp only [rampartref01_Has.j0]
    rw [if_pos h0]
    simp
  · by_cases h1 : i < 64
    · obtain ⟨n, rfl⟩ := Int.eq_ofNat_of_zero_le (by omega : 0 ≤ i)
      have e : (decide (0 ≤ (n : Int)) && decide ((n : Int) < 64) && s.testBit (n : Int).toNat) = s.testBit n := by simp; omega
      rw [e]
      refine Ev.step (f := fun k => rampartref01_Has.l0 k (s : Int) (n : Int)) (fun k => ?_) (has_l0 n s hs (by omega))
      rw [if_neg h0]
      simp only [rampartref01_Has.j0]
      rw [if_neg (by simp; omega)]
    · have e : (decide (0 ≤ i) && decide (i < 64) && s.testBit i.toNat) = false := by simp; omega
      rw [e]
      refine Ev.step (f := fun _ => some false) (fun k => ?_) (Ev.now _)
      rw [if_neg h0]
      simp only [rampartref01_Has.j0]
      rw [if_pos (by simp; omega)]
theorem has_nat {s : Nat} (hs : s < 2 ^ 64) {i : Nat} (hi : i < 64) : Ev (fun k => rampartref01_Has.f k (s : Int) (i : Int)) (s.testBit i) := by
  have := has_ev hs (i : Int)
  have e : hasB s (i : Int) = s.testBit i := by simp [hasB]; omega
  rwa [e] at this
theorem list_l0 {s : Nat} (hs : s < 2 ^ 64) : ∀ (d i : Nat), 64 - i = d → i ≤ 64 → Ev (fun k => rampartref01_List.l0 k (s : Int) (vals (pfx s i)) (i : Int)) (vals (pfx s 64))
  | 0, i, hd, hi => by
    obtain rfl : i = 64 := by omega
    refine Ev.step (f := fun _ => some (vals (pfx s 64))) (fun k => ?_) (Ev.now _)
    simp only [rampartref01_List.l0]
    rw [if_neg (by omega)]
  | d + 1, i, hd, hi => by
    have ih := list_l0 hs d (i + 1) (by omega) (by omega)
    refine Ev.step (f := fun k => (rampartref01_Has.f k (s : Int) (i : Int)).bind fun t => if t = true then rampartref01_List.l0 k (s : Int) (vals (pfx s i) ++ [(i : Int)]) ((i + 1 : Nat) : Int) else rampartref01_List.l0 k (s : Int) (vals (pfx s i)) ((i + 1 : Nat) : Int)) (fun k => ?_) ?_
    · simp only [rampartref01_List.l0]
      have hl := pfx_length s i
      have hv := vals_len (pfx s i)
      rw [if_pos (by omega), w64_inc (by omega)]
      congr 1
      funext t
      have hl2 : (vals (pfx s i)).length < 17592186044416 := by omega
      rw [if_pos hl2]
    · refine Ev.bind (has_nat hs (by omega)) ?_
      cases hb : s.testBit i
      · rw [pfx_no hb] at ih
        simpa using ih
      · rw [pfx_yes (by omega) hb, vals_snoc] at ih
        simpa using ih
theorem list_ev {s : Nat} (hs : s < 2 ^ 64) : Ev (fun k => rampartref01_List.f k (s : Int)) (vals (pfx s 64)) := list_l0 hs 64 0 rfl (by omega)
theorem or_add {s i : Nat} (h : s.testBit i = false) : s + 2 ^ i = s ||| 2 ^ i := by
  have hp := Nat.two_pow_pos i
  have e1 : s % 2 ^ (i + 1) < 2 ^ i := by
    have h2 : s.testBit i = decide (s / 2 ^ i % 2 = 1) := Nat.testBit_eq_decide_div_mod_eq
    rw [h] at h2
    have h3 : s / 2 ^ i % 2 = 0 := by
      have := of_decide_eq_false h2.symm
      omega
    rw [Nat.pow_succ, Nat.mod_mul, h3]
    have := Nat.mod_lt s hp
    omega
  have e2 : 2 ^ (i + 1) * (s / 2 ^ (i + 1)) + s % 2 ^ (i + 1) = s := Nat.div_add_mod s _
  generalize s / 2 ^ (i + 1) = q at *
  generalize hr : s % 2 ^ (i + 1) = r at *
  have e3 : 2 ^ (i + 1) = 2 ^ i + 2 ^ i := by rw [Nat.pow_succ]; omega
  have e4 : 2 ^ i * 1 + r = 2 ^ i * 1 ||| r := Nat.two_pow_add_eq_or_of_lt e1 1
  have e5 : 2 ^ (i + 1) * q + (2 ^ i + r) = 2 ^ (i + 1) * q ||| (2 ^ i + r) := Nat.two_pow_add_eq_or_of_lt (by omega) q
  have e6 : 2 ^ (i + 1) * q + r = 2 ^ (i + 1) * q ||| r := Nat.two_pow_add_eq_or_of_lt (by omega) q
  rw [Nat.mul_one] at e4
  have e7 : s + 2 ^ i = 2 ^ (i + 1) * q ||| (2 ^ i ||| r) := by rw [← e4, ← e5]; omega
  rw [e7, ← e2, e6]
  apply Nat.eq_of_testBit_eq
  intro j
  simp only [Nat.testBit_or]
  cases (2 ^ (i + 1) * q).testBit j <;> cases (2 ^ i).testBit j <;> cases r.testBit j <;> rfl
theorem with_l0 {s : Nat} (hs : s < 2 ^ 64) : ∀ (i j : Nat), i + j < 64 → s + 2 ^ (i + j) < 2 ^ 64 → Ev (fun k => rampartref01_with.l0 k (s : Int) (i : Int) ((2 ^ j : Nat) : Int)) ((s + 2 ^ (i + j) : Nat) : Int)
  | 0, j, h, hb => by
    refine Ev.step (f := fun _ => some ((s + 2 ^ (0 + j) : Nat) : Int)) (fun k => ?_) (Ev.now _)
    rw [Nat.zero_add] at hb ⊢
    simp only [rampartref01_with.l0]
    generalize 2 ^ j = p at *
    rw [if_neg (by omega), wu64 (by omega) (by omega)]
    congr 1
  | i + 1, j, h, hb => by
    have ih := with_l0 hs i (j + 1) (by omega) (by rw [show i + (j + 1) = i + 1 + j by omega]; exact hb)
    rw [show i + (j + 1) = i + 1 + j by omega] at ih
    refine Ev.step (fun k => ?_) ih
    simp only [rampartref01_with.l0]
    have hp : 2 ^ (j + 1) < 2 ^ 64 := Nat.pow_lt_pow_right (by decide) (by omega)
    have e : ((2 ^ (j + 1) : Nat) : Int) = ((2 ^ j : Nat) : Int) * 2 := by rw [Nat.pow_succ]; simp
    have e2 : 2 ^ (j + 1) = 2 ^ j * 2 := Nat.pow_succ ..
    rw [e]
    generalize 2 ^ j = p at *
    rw [if_pos (by omega), w64_dec (by omega), wu64 (by omega) (by omega)]
theorem or_lt64 {s i : Nat} (hs : s < 2 ^ 64) (hi : i < 64) : s ||| 2 ^ i < 2 ^ 64 := Nat.or_lt_two_pow hs (Nat.pow_lt_pow_right (by decide) hi)
theorem with_ev {s : Nat} (hs : s < 2 ^ 64) {i : Nat} (hi : i < 64) : Ev (fun k => rampartref01_with.f k (s : Int) (i : Int)) ((s ||| 2 ^ i : Nat) : Int) := by
  unfold rampartref01_with.f
  refine Ev.bind (has_nat hs hi) ?_
  cases hb : s.testBit i
  · have h := with_l0 hs i 0 (by omega) (by rw [Nat.add_zero, or_add hb]; exact or_lt64 hs hi)
    rw [Nat.add_zero, or_add hb] at h
    simpa using h
  · have e : s ||| 2 ^ i = s := by
      apply Nat.eq_of_testBit_eq
      intro j
      rw [Nat.testBit_or, Nat.testBit_two_pow]
      by_cases h : i = j
      · subst h; simp [hb]
      · simp [h]
    rw [e]
    simpa using Ev.now _
theorem alive_ev : Ev (fun k => rampartlaw01_alive.f k) true := Ev.of rampartlaw01_alive.mono (k := 20) (by decide +kernel)
theorem alive_last {α : Type} {b : Bool} (hb : b = true) : Ev (fun k => (rampartlaw01_alive.f k).bind fun t => some t) b := by subst hb; exact Ev.bind alive_ev (Ev.now _)
theorem u_nat {a : Int} (h : (Lit.int .u64 a).wf = true) : ∃ s : Nat, a = (s : Int) ∧ s < 2 ^ 64 := by
  have h1 : 0 ≤ a ∧ a ≤ 18446744073709551615 := by simpa [Lit.wf, IntKind.bits, IntKind.signed, IntKind.wrap, IntKind.min, IntKind.max] using h
  obtain ⟨s, rfl⟩ := Int.eq_ofNat_of_zero_le h1.1
  exact ⟨s, rfl, by omega⟩
theorem i_rng {a : Int} (h : (Lit.int .i64 a).wf = true) : -9223372036854775808 ≤ a ∧ a < 9223372036854775808 := by
  have h1 : -9223372036854775808 ≤ a ∧ a ≤ 9223372036854775807 := by simpa [Lit.wf, IntKind.bits, IntKind.signed, IntKind.wrap, IntKind.min, IntKind.max] using h
  omega
theorem uOk_at {s : Nat} (hs : s < 2 ^ 64) : uOk (s : Int) = true := by unfold uOk; simp; omega
theorem one_ev {i : Nat} (hi : i < 64) : bits_one.f (i : Int) = some ((2 ^ i : Nat) : Int) := by
  unfold bits_one.f
  rw [wu64 (by omega) (by omega), if_pos (by omega)]
  unfold shl
  rw [Int.one_mul, Nat.min_eq_left (by simp [IntKind.bits]; omega), Int.toNat_natCast, wrap_pow hi]
theorem has_b {s : Nat} (hs : s < 2 ^ 64) (i : Int) : bits_Has.f (s : Int) i = some (hasB s i) := by
  unfold bits_Has.f hasB
  by_cases h0 : 0 ≤ i
  · by_cases h1 : i < 64
    · obtain ⟨n, rfl⟩ := Int.eq_ofNat_of_zero_le h0
      rw [if_pos h0, if_pos h1, one_ev (by omega), Option.bind_some, and_pow s n hs (by omega)]
      have := pow_ne n
      have e : (decide (0 ≤ (n : Int)) && decide ((n : Int) < 64) && s.testBit (n : Int).toNat) = s.testBit n := by simp; omega
      rw [e]
      cases s.testBit n
      · rfl
      · simpa using this
    · rw [if_pos h0, if_neg h1]
      simp [h1]
  · rw [if_neg h0]
    simp [h0]
theorem of_both (l : List Int) (hl : l.length < 1000000) : ∀ (d i s : Nat), l.length - i = d → i ≤ l.length → s < 2 ^ 64 → ∃ r : Int × Int, Ev (fun k => bits_Of.l0 k (s : Int) l ((l.length : Nat) : Int) (i : Int)) r ∧ Ev (fun k => rampartref01_Of.l0 k l (s : Int) (i : Int)) r
  | 0, i, s, hd, hi, hs => by
    refine ⟨((s : Int), 0), Ev.step (f := fun _ => some ((s : Int), 0)) (fun k => ?_) (Ev.now _), Ev.step (f := fun _ => some ((s : Int), 0)) (fun k => ?_) (Ev.now _)⟩
    · simp only [bits_Of.l0]; rw [if_neg (by omega)]
    · simp only [rampartref01_Of.l0]; rw [if_neg (by omega)]
  | d + 1, i, s, hd, hi, hs => by
    have c1 : (i : Int) < (l.length : Int) := by omega
    have c2 : (0 : Int) ≤ (i : Int) := by omega
    by_cases h0 : rd l (i : Int) < 0
    · refine ⟨(0, 10), Ev.step (f := fun _ => some ((0, 10) : Int × Int)) (fun k => ?_) (Ev.now _), Ev.step (f := fun _ => some ((0, 10) : Int × Int)) (fun k => ?_) (Ev.now _)⟩
      · simp only [bits_Of.l0]; rw [if_pos c1, if_pos c2, if_pos c1, if_pos h0]
      · simp only [rampartref01_Of.l0]; rw [if_pos c1, if_pos c2, if_pos h0]
    · by_cases h1 : rd l (i : Int) ≥ 64
      · refine ⟨(0, 10), Ev.step (f := fun _ => some ((0, 10) : Int × Int)) (fun k => ?_) (Ev.now _), Ev.step (f := fun _ => some ((0, 10) : Int × Int)) (fun k => ?_) (Ev.now _)⟩
        · simp only [bits_Of.l0]; rw [if_pos c1, if_pos c2, if_pos c1, if_neg h0, if_pos h1]
        · simp only [rampartref01_Of.l0]; rw [if_pos c1, if_pos c2, if_neg h0, if_pos h1]
      · obtain ⟨v, hv⟩ := Int.eq_ofNat_of_zero_le (by omega : 0 ≤ rd l (i : Int))
        have hv64 : v < 64 := by omega
        obtain ⟨r, e1, e2⟩ := of_both l hl d (i + 1) (s ||| 2 ^ v) (by omega) (by omega) (or_lt64 hs hv64)
        refine ⟨r, Ev.step (fun k => ?_) e1, Ev.step (f := fun k => (rampartref01_with.f k (s : Int) (v : Int)).bind fun t => rampartref01_Of.l0 k l t ((i + 1 : Nat) : Int)) (fun k => ?_) (Ev.bind (with_ev hs hv64) e2)⟩
        · simp only [bits_Of.l0]
          rw [if_pos c1, if_pos c2, if_pos c1, if_neg h0, if_neg h1, hv, one_ev hv64, Option.bind_some, or_u64 hs (Nat.pow_lt_pow_right (by decide) hv64), w64_inc (by omega)]
        · simp only [rampartref01_Of.l0]
          rw [if_pos c1, if_pos c2, if_neg h0, if_neg h1, hv, w64_inc (by omega)]
theorem of_same {l : List Int} (hl : l.length < 1000000) : ∃ r : Int × Int, Ev (fun k => bits_Of.f k l) r ∧ Ev (fun k => rampartref01_Of.f k l) r := of_both l hl l.length 0 0 (by omega) (by omega) (by decide)
theorem sames_l0 {l : List Int} (h : l.length < 1000000) : ∀ (d i : Nat), l.length - i = d → i ≤ l.length → Ev (fun k => rampartlaw01_same.l0 k l l (i : Int)) true
  | 0, i, hd, hi => by
    refine Ev.step (f := fun _ => some true) (fun k => ?_) (Ev.now _)
    simp only [rampartlaw01_same.l0]
    rw [if_neg (by omega)]
  | d + 1, i, hd, hi => by
    refine Ev.step (fun k => ?_) (sames_l0 h d (i + 1) (by omega) (by omega))
    simp only [rampartlaw01_same.l0]
    have c1 : (i : Int) < (l.length : Int) := by omega
    rw [if_pos c1, if_pos (by omega), if_pos c1, w64_inc (by omega)]
    simp only [if_true]
theorem sames_ev {l : List Int} (h : l.length < 1000000) : Ev (fun k => rampartlaw01_same.f k l l) true := by
  unfold rampartlaw01_same.f
  exact Ev.congr (fun k => if_pos rfl) (sames_l0 h l.length 0 (by omega) (by omega))
end Go.Proofs.Ytbbmibabjffcaaa.Q
