/- Layer 2, plain: what the reference's functions of layer 1 answer. -/
import Derived.Test.YtlbjcmiegbejdaaQx10
import Derived.Test.YtlbjcmiegbejdaaL8
namespace Go.Proofs.Ytlbjcmiegbejdaa.Q
open Go.RowKit Go.Proofs.YtlbjcmiegbejdaaW.PrintWords Go.Proofs.YtlbjcmiegbejdaaW.PrintMore Go.Proofs.YtlbjcmiegbejdaaW.PrintLast Go.Proofs.Ytlbjcmiegbejdaa.Bm
set_option linter.unusedVariables false
set_option linter.unusedSimpArgs false
theorem w64_inc {i : Nat} (h : i < 1000000) : wrap64 ((i : Int) + 1) = ((i + 1 : Nat) : Int) := by unfold wrap64; omega
theorem w64_dec {i : Nat} (h : i < 1000000) : wrap64 (((i + 1 : Nat) : Int) - 1) = (i : Int) := by unfold wrap64; omega
theorem wu64 {n : Int} (h0 : 0 ≤ n) (h1 : n < 18446744073709551616) : IntKind.u64.wrap n = n := by simp [IntKind.wrap, IntKind.bits, IntKind.signed]; omega
theorem half {s : Nat} (hs : s < 2 ^ 64) : IntKind.u64.wrap (Int.tdiv (s : Int) 2) = ((s / 2 : Nat) : Int) := by
  rw [Int.tdiv_eq_ediv_of_nonneg (by omega), wu64 (by omega) (by omega)]
  omega
theorem has_l0 : ∀ (i s : Nat), s < 2 ^ 64 → i < 64 → Ev (fun k => rampartref01_Has.l0 k (s : Int) (i : Int)) (s.testBit i)
  | 0, s, hs, _ => by
    refine Ev.step (f := fun _ => some (s.testBit 0)) (fun k => ?_) (Ev.now _)
    simp only [rampartref01_Has.l0]
    rw [if_neg (by omega)]
    congr 1
    rw [Nat.testBit_zero, Bool.eq_iff_iff, beq_iff_eq, decide_eq_true_iff, Int.tmod_eq_emod_of_nonneg (by omega)]
    omega
  | i + 1, s, hs, hi => by
    rw [Nat.testBit_succ]
    refine Ev.step (f := fun k => rampartref01_Has.l0 k ((s / 2 : Nat) : Int) (i : Int)) (fun k => ?_) (has_l0 i (s / 2) (by omega) (by omega))
    simp only [rampartref01_Has.l0]
    rw [if_pos (by omega), half hs, w64_dec (by omega)]
theorem has_ev {s : Nat} (hs : s < 2 ^ 64) (i : Int) : Ev (fun k => rampartref01_Has.f k (s : Int) i) (hasB s i) := by
  unfold rampartref01_Has.f hasB
  by_cases h0 : i < 0
  · rw [decide_eq_false (by omega : ¬ 0 ≤ i), Bool.false_and, Bool.false_and]
    exact Ev.congr (fun k => if_pos h0) (Ev.now _)
  · refine Ev.congr (fun k => if_neg h0) ?_
    by_cases h1 : 64 ≤ i
    · rw [decide_eq_false (by omega : ¬ i < 64), Bool.and_false, Bool.false_and]
      exact Ev.congr (fun k => if_pos h1) (Ev.now _)
    · obtain ⟨n, rfl⟩ := Int.eq_ofNat_of_zero_le (by omega : 0 ≤ i)
      rw [decide_eq_true (by omega : (0 : Int) ≤ (n : Int)), decide_eq_true (by omega : ((n : Nat) : Int) < 64), Bool.true_and, Bool.true_and, Int.toNat_natCast]
      exact Ev.congr (fun k => if_neg h1) (has_l0 n s hs (by omega))
theorem has_nat {s : Nat} (hs : s < 2 ^ 64) {i : Nat} (hi : i < 64) : Ev (fun k => rampartref01_Has.f k (s : Int) (i : Int)) (s.testBit i) := by
  have := has_ev hs (i : Int)
  have e : hasB s (i : Int) = s.testBit i := by simp [hasB]; omega
  rwa [e] at this
theorem list_l0 {s : Nat} (hs : s < 2 ^ 64) : ∀ (d i : Nat), 64 - i = d → i ≤ 64 → Ev (fun k => rampartref01_List.l0 k (s : Int) (vals (pfx s i)) (i : Int)) (vals (pfx s 64))
  | 0, i, hd, hi => by
    obtain rfl : i = 64 := by omega
    refine Ev.step (f := fun _ => some (vals (pfx s 64))) (fun k => ?_) (Ev.now _)
    simp only [rampartref01_List.l0]
    rw [if_neg (by omega)]
  | d + 1, i, hd, hi => by
    have ih := list_l0 hs d (i + 1) (by omega) (by omega)
    refine Ev.step (f := fun k => (rampartref01_Has.f k (s : Int) (i : Int)).bind fun t => if t = true then rampartref01_List.l0 k (s : Int) (vals (pfx s i) ++ [(i : Int)]) ((i + 1 : Nat) : Int) else rampartref01_List.l0 k (s : Int) (vals (pfx s i)) ((i + 1 : Nat) : Int)) (fun k => ?_) ?_
    · simp only [rampartref01_List.l0]
      have hl := pfx_length s i
      have hv := vals_len (pfx s i)
      rw [if_pos (by omega), w64_inc (by omega)]
      congr 1
      funext t
      have hl2 : (vals (pfx s i)).length < 17592186044416 := by omega
      rw [if_pos hl2]
    · refine Ev.bind (has_nat hs (by omega)) ?_
      cases hb : s.testBit i
      · rw [pfx_no hb] at ih
        simpa using ih
      · rw [pfx_yes (by omega) hb, vals_snoc] at ih
        simpa using ih
theorem list_ev {s : Nat} (hs : s < 2 ^ 64) : Ev (fun k => rampartref01_List.f k (s : Int)) (vals (pfx s 64)) := list_l0 hs 64 0 rfl (by omega)
theorem or_add {s i : Nat} (h : s.testBit i = false) : s + 2 ^ i = s ||| 2 ^ i := by
  have hp := Nat.two_pow_pos i
  have e1 : s % 2 ^ (i + 1) < 2 ^ i := by
    have h2 : s.testBit i = decide (s / 2 ^ i % 2 = 1) := Nat.testBit_eq_decide_div_mod_eq
    rw [h] at h2
    have h3 : s / 2 ^ i % 2 = 0 := by
      have := of_decide_eq_false h2.symm
      omega
    rw [Nat.pow_succ, Nat.mod_mul, h3]
    have := Nat.mod_lt s hp
    omega
  have e2 : 2 ^ (i + 1) * (s / 2 ^ (i + 1)) + s % 2 ^ (i + 1) = s := Nat.div_add_mod s _
  generalize s / 2 ^ (i + 1) = q at *
  generalize hr : s % 2 ^ (i + 1) = r at *
  have e3 : 2 ^ (i + 1) = 2 ^ i + 2 ^ i := by rw [Nat.pow_succ]; omega
  have e4 : 2 ^ i * 1 + r = 2 ^ i * 1 ||| r := Nat.two_pow_add_eq_or_of_lt e1 1
  have e5 : 2 ^ (i + 1) * q + (2 ^ i + r) = 2 ^ (i + 1) * q ||| (2 ^ i + r) := Nat.two_pow_add_eq_or_of_lt (by omega) q
  have e6 : 2 ^ (i + 1) * q + r = 2 ^ (i + 1) * q ||| r := Nat.two_pow_add_eq_or_of_lt (by omega) q
  rw [Nat.mul_one] at e4
  have e7 : s + 2 ^ i = 2 ^ (i + 1) * q ||| (2 ^ i ||| r) := by rw [← e4, ← e5]; omega
  rw [e7, ← e2, e6]
  apply Nat.eq_of_testBit_eq
  intro j
  simp only [Nat.testBit_or]
  cases (2 ^ (i + 1) * q).testBit j <;> cases (2 ^ i).testBit j <;> cases r.testBit j <;> rfl
theorem with_l0 {s : Nat} (hs : s < 2 ^ 64) : ∀ (i j : Nat), i + j < 64 → s + 2 ^ (i + j) < 2 ^ 64 → Ev (fun k => rampartref01_with.l0 k (s : Int) (i : Int) ((2 ^ j : Nat) : Int)) ((s + 2 ^ (i + j) : Nat) : Int)
  | 0, j, h, hb => by
    refine Ev.step (f := fun _ => some ((s + 2 ^ (0 + j) : Nat) : Int)) (fun k => ?_) (Ev.now _)
    rw [Nat.zero_add] at hb ⊢
    simp only [rampartref01_with.l0]
    generalize 2 ^ j = p at *
    rw [if_neg (by omega), wu64 (by omega) (by omega)]
    congr 1
  | i + 1, j, h, hb => by
    have ih := with_l0 hs i (j + 1) (by omega) (by rw [show i + (j + 1) = i + 1 + j by omega]; exact hb)
    rw [show i + (j + 1) = i + 1 + j by omega] at ih
    refine Ev.step (fun k => ?_) ih
    simp only [rampartref01_with.l0]
    have hp : 2 ^ (j + 1) < 2 ^ 64 := Nat.pow_lt_pow_right (by decide) (by omega)
    have e : ((2 ^ (j + 1) : Nat) : Int) = ((2 ^ j : Nat) : Int) * 2 := by rw [Nat.pow_succ]; simp
    have e2 : 2 ^ (j + 1) = 2 ^ j * 2 := Nat.pow_succ ..
    rw [e]
    generalize 2 ^ j = p at *
    rw [if_pos (by omega), w64_dec (by omega), wu64 (by omega) (by omega)]
theorem or_lt64 {s i : Nat} (hs : s < 2 ^ 64) (hi : i < 64) : s ||| 2 ^ i < 2 ^ 64 := Nat.or_lt_two_pow hs (Nat.pow_lt_pow_right (by decide) hi)
theorem with_ev {s : Nat} (hs : s < 2 ^ 64) {i : Nat} (hi : i < 64) : Ev (fun k => rampartref01_with.f k (s : Int) (i : Int)) ((s ||| 2 ^ i : Nat) : Int) := by
  unfold rampartref01_with.f
  refine Ev.bind (has_nat hs hi) ?_
  cases hb : s.testBit i
  · have h := with_l0 hs i 0 (by omega) (by rw [Nat.add_zero, or_add hb]; exact or_lt64 hs hi)
    rw [Nat.add_zero, or_add hb] at h
    simpa using h
  · have e : s ||| 2 ^ i = s := by
      apply Nat.eq_of_testBit_eq
      intro j
      rw [Nat.testBit_or, Nat.testBit_two_pow]
      by_cases h : i = j
      · subst h; simp [hb]
      · simp [h]
    rw [e]
    simpa using Ev.now _
theorem pfx_mem {s : Nat} : ∀ (k : Nat) (x : Fin 64), x ∈ pfx s k ↔ x.val < k ∧ s.testBit x.val = true
  | 0, x => by simp [pfx]
  | k + 1, x => by
    have ih := pfx_mem (s := s) k x
    simp only [pfx, List.mem_append, ih]
    by_cases hk : k < 64
    · rw [dif_pos hk]
      cases hb : s.testBit k
      · simp only [Bool.false_eq_true, if_false, List.not_mem_nil, or_false]
        constructor
        · exact fun h => ⟨by omega, h.2⟩
        · intro h
          refine ⟨?_, h.2⟩
          have : x.val ≠ k := fun e => by rw [e, hb] at h; cases h.2
          omega
      · simp only [if_true, List.mem_singleton]
        constructor
        · rintro (h | h)
          · exact ⟨by omega, h.2⟩
          · subst h; exact ⟨by simp, hb⟩
        · intro h
          by_cases e : x.val = k
          · exact .inr (Fin.ext e)
          · exact .inl ⟨by omega, h.2⟩
    · rw [dif_neg hk]
      simp only [List.not_mem_nil, or_false]
      have := x.2
      constructor
      · exact fun h => ⟨by omega, h.2⟩
      · exact fun h => ⟨by omega, h.2⟩
theorem pfx_last {s : Nat} : ∀ (k : Nat) (q : List (Fin 64)) (x : Fin 64), pfx s k = q ++ [x] → ∀ y ∈ pfx s k, y.val ≤ x.val
  | 0, q, x, h => by simp [pfx] at h
  | k + 1, q, x, h => by
    by_cases hk : k < 64
    · cases hb : s.testBit k
      · rw [pfx_no hb] at h ⊢
        exact pfx_last k q x h
      · rw [pfx_yes hk hb] at h
        have hx : x = ⟨k, hk⟩ := by
          have := congrArg List.getLast? h
          simp at this
          exact this.symm
        subst hx
        intro y hy
        have := ((pfx_mem (k + 1) y).1 hy).1
        show y.val ≤ k
        omega
    · have e : pfx s (k + 1) = pfx s k := by simp [pfx, hk]
      rw [e] at h ⊢
      exact pfx_last k q x h
theorem top_ge {s n : Nat} (hs : s < 2 ^ 64) {q : List (Fin 64)} {x : Fin 64} (h : pfx s 64 = q ++ [x]) : n ≤ x.val ↔ 2 ^ n ≤ s := by
  have hx : x ∈ pfx s 64 := by rw [h]; simp
  have hb := ((pfx_mem 64 x).1 hx).2
  constructor
  · intro hn
    have h1 : 2 ^ x.val ≤ s := by
      by_cases h_ : s < 2 ^ x.val
      · rw [Nat.testBit_lt_two_pow h_] at hb; cases hb
      · omega
    exact Nat.le_trans (Nat.pow_le_pow_right (by decide) hn) h1
  · intro hn
    by_cases hc : n ≤ x.val
    · exact hc
    · have : s < 2 ^ n := Nat.lt_pow_two_of_testBit s fun i hi => by
        cases hi' : s.testBit i
        · rfl
        · have hi64 : i < 64 := by
            by_cases h64 : i < 64
            · exact h64
            · rw [Nat.testBit_lt_two_pow (Nat.lt_of_lt_of_le hs (Nat.pow_le_pow_right (by decide) (by omega)))] at hi'; cases hi'
          have := pfx_last 64 q x h ⟨i, hi64⟩ ((pfx_mem 64 _).2 ⟨hi64, hi'⟩)
          have h3 : i ≤ x.val := this
          omega
      omega
theorem pfx_nil {s : Nat} (hs : s < 2 ^ 64) (h : pfx s 64 = []) : s = 0 := by
  apply Nat.eq_of_testBit_eq
  intro i
  rw [Nat.zero_testBit]
  cases hi : s.testBit i
  · rfl
  · have hi64 : i < 64 := by
      by_cases h64 : i < 64
      · exact h64
      · rw [Nat.testBit_lt_two_pow (Nat.lt_of_lt_of_le hs (Nat.pow_le_pow_right (by decide) (by omega)))] at hi; cases hi
    have := (pfx_mem 64 (⟨i, hi64⟩ : Fin 64)).2 ⟨hi64, hi⟩
    rw [h] at this
    cases this
theorem rd_vals {l : List (Fin 64)} {i : Nat} (h : i < l.length) : rd (vals l) (i : Int) = ((l[i].val : Nat) : Int) := by
  unfold rd vals
  rw [List.getD_eq_getElem?_getD, Int.toNat_natCast, List.getElem?_map, List.getElem?_eq_getElem h]
  rfl
theorem rd_rows {l : List Int} (h : okU l) {i : Nat} (hi : i < l.length) : rd l (i : Int) = ((rowsF l i : Nat) : Int) := by
  unfold rd
  rw [List.getD_eq_getElem?_getD, Int.toNat_natCast, (okU_at h hi).1]
  rfl
/-- One round of the reference's check. -/
theorem check_step {l : List Int} (hl : okU l) (h64 : l.length ≤ 64) {i : Nat} (hi : i < l.length) {r : Int} (h : rowsF l i < 2 ^ l.length → Ev (fun k => rampartref01_Check.l0 k l ((i + 1 : Nat) : Int)) r) (h' : 2 ^ l.length ≤ rowsF l i → r = 10) :
    Ev (fun k => rampartref01_Check.l0 k l (i : Int)) r := by
  have hR := (okU_at hl hi).2
  refine Ev.step (f := fun k => (rampartref01_List.f k ((rowsF l i : Nat) : Int)).bind fun t => if (t.length : Int) > 0 then (if 0 ≤ wrap64 ((t.length : Int) - 1) then (if wrap64 ((t.length : Int) - 1) < (t.length : Int) then (if rd t (wrap64 ((t.length : Int) - 1)) ≥ (l.length : Int) then some 10 else rampartref01_Check.l0 k l ((i + 1 : Nat) : Int)) else none) else none) else rampartref01_Check.l0 k l ((i + 1 : Nat) : Int)) (fun k => ?_) ?_
  · simp only [rampartref01_Check.l0]
    rw [if_pos (by omega), if_pos (by omega), rd_rows hl hi, w64_inc (by omega)]
  · refine Ev.bind (list_ev hR) ?_
    have hv := vals_len (pfx (rowsF l i) 64)
    have hp64 := pfx_length (rowsF l i) 64
    rcases List.eq_nil_or_concat (pfx (rowsF l i) 64) with hn | ⟨q, x, hq⟩
    · have h0 := pfx_nil hR hn
      rw [hn]
      have := Nat.two_pow_pos l.length
      simpa [vals] using h (by omega)
    · rw [List.concat_eq_append] at hq
      have hlen : (pfx (rowsF l i) 64).length = q.length + 1 := by rw [hq]; simp
      have e1 : wrap64 (((vals (pfx (rowsF l i) 64)).length : Int) - 1) = ((q.length : Nat) : Int) := by rw [hv, hlen]; exact w64_dec (by omega)
      have e2 : rd (vals (pfx (rowsF l i) 64)) ((q.length : Nat) : Int) = ((x.val : Nat) : Int) := by
        rw [rd_vals (by omega)]
        simp [hq]
      have ht := top_ge (n := l.length) hR hq
      by_cases hge : l.length ≤ x.val
      · rw [h' (ht.1 hge)]
        refine Ev.congr (f := fun _ => some 10) (fun k => ?_) (Ev.now _)
        rw [if_pos (by omega), e1, if_pos (by omega), if_pos (by omega), e2, if_pos (by omega)]
      · refine Ev.congr (f := fun k => rampartref01_Check.l0 k l ((i + 1 : Nat) : Int)) (fun k => ?_) (h (by have := fun h_ => hge (ht.2 h_); omega))
        rw [if_pos (by omega), e1, if_pos (by omega), if_pos (by omega), e2, if_neg (by omega)]
theorem check_ok {l : List Int} (hl : okU l) (h64 : l.length ≤ 64) : ∀ (d i : Nat), l.length - i = d → i ≤ l.length → (∀ j, i ≤ j → j < l.length → rowsF l j < 2 ^ l.length) → Ev (fun k => rampartref01_Check.l0 k l (i : Int)) 0
  | 0, i, hd, hi, h => by
    refine Ev.step (f := fun _ => some 0) (fun k => ?_) (Ev.now _)
    simp only [rampartref01_Check.l0]
    rw [if_neg (by omega)]
  | d + 1, i, hd, hi, h => check_step hl h64 (by omega) (fun _ => check_ok hl h64 d (i + 1) (by omega) (by omega) (fun j hj hjl => h j (by omega) hjl)) (fun h_ => absurd (h i (by omega) (by omega)) (by omega))
theorem check_no {l : List Int} (hl : okU l) (h64 : l.length ≤ 64) : ∀ (d i : Nat), l.length - i = d → i ≤ l.length → (∃ j, i ≤ j ∧ j < l.length ∧ 2 ^ l.length ≤ rowsF l j) → Ev (fun k => rampartref01_Check.l0 k l (i : Int)) 10
  | 0, i, hd, hi, ⟨j, h1, h2, h3⟩ => absurd h1 (by omega)
  | d + 1, i, hd, hi, ⟨j, h1, h2, h3⟩ => check_step hl h64 (by omega) (fun hlt => check_no hl h64 d (i + 1) (by omega) (by omega) ⟨j, (by
      by_cases e : i = j
      · subst e; omega
      · omega), h2, h3⟩) (fun _ => rfl)
theorem check_ev {l : List Int} (hl : okU l) : Ev (fun k => rampartref01_Check.f k l) (ofR l).2.2 := by
  unfold rampartref01_Check.f
  unfold ofR
  by_cases h64 : 64 < l.length
  · rw [if_pos h64]
    refine Ev.congr (f := fun _ => some 3) (fun k => ?_) (Ev.now _)
    rw [if_pos (by omega)]
  · rw [if_neg h64]
    refine Ev.congr (f := fun k => rampartref01_Check.l0 k l 0) (fun k => ?_) ?_
    · rw [if_neg (by omega)]
    · cases h : okRel (rowsF l) l.length
      · rw [if_neg (by simp)]
        have hn : ¬ ∀ i, i < l.length → rowsF l i < 2 ^ l.length := fun h_ => by rw [okRel_iff.2 h_] at h; cases h
        obtain ⟨j, hj⟩ := Classical.not_forall.1 hn
        obtain ⟨hj1, hj2⟩ := Classical.not_imp.1 hj
        exact check_no hl (by omega) l.length 0 (by omega) (by omega) ⟨j, by omega, hj1, by omega⟩
      · rw [if_pos rfl]
        exact check_ok hl (by omega) l.length 0 (by omega) (by omega) (fun j _ hj => okRel_iff.1 h j hj)
theorem rd_rowsI {F : Nat → Nat} {n j : Nat} (h : j < n) : rd (rowsI F n) (j : Int) = ((F j : Nat) : Int) := by
  unfold rd rowsI
  rw [List.getD_eq_getElem?_getD, Int.toNat_natCast, List.getElem?_map, List.getElem?_range h]
  rfl
theorem set_rowsI {F : Nat → Nat} {n j v : Nat} : (rowsI F n).set j ((v : Nat) : Int) = rowsI (upd F j v) n := by
  apply List.ext_getElem?
  intro i
  rw [List.getElem?_set]
  unfold rowsI
  by_cases h : j = i
  · subst h
    rw [if_pos rfl]
    by_cases hj : j < n
    · rw [if_pos (by simpa using hj), List.getElem?_map, List.getElem?_range hj]
      simp [upd]
    · rw [if_neg (by simpa using hj), List.getElem?_eq_none (by simp; omega)]
  · rw [if_neg h]
    by_cases hi : i < n
    · rw [List.getElem?_map, List.getElem?_range hi, List.getElem?_map, List.getElem?_range hi]
      simp [upd, show ¬ i = j by omega]
    · rw [List.getElem?_eq_none (by simp; omega), List.getElem?_eq_none (by simp; omega)]
theorem rowsI_ext {F G : Nat → Nat} {n : Nat} (h : ∀ i, i < n → F i = G i) : rowsI F n = rowsI G n := by
  unfold rowsI
  exact List.map_congr_left fun i hi => by rw [h i (List.mem_range.1 hi)]
theorem rep_rowsI (n : Nat) : List.replicate n (0 : Int) = rowsI (fun _ => 0) n := by
  apply List.ext_getElem?
  intro i
  unfold rowsI
  by_cases hi : i < n
  · rw [List.getElem?_map, List.getElem?_range hi, List.getElem?_replicate_of_lt hi]; rfl
  · rw [List.getElem?_eq_none (by simp; omega), List.getElem?_eq_none (by simp; omega)]
/-- The turned rows, i rows taken, and of row i what lies below j. -/
def turnJ (R : Nat → Nat) (i j : Nat) : Nat → Nat := fun m => if m < j ∧ (R i).testBit m = true then turnK R i m ||| 2 ^ i else turnK R i m
theorem turnJ_yes {R : Nat → Nat} {i j : Nat} (h : (R i).testBit j = true) : upd (turnJ R i j) j (turnJ R i j j ||| 2 ^ i) = turnJ R i (j + 1) := by
  funext m
  unfold upd turnJ
  by_cases e : m = j
  · subst e
    rw [if_pos rfl, if_neg (by omega), if_pos ⟨by omega, h⟩]
  · rw [if_neg e]
    by_cases hm : m < j ∧ (R i).testBit m = true
    · rw [if_pos hm, if_pos ⟨by omega, hm.2⟩]
    · rw [if_neg hm, if_neg (fun h_ => hm ⟨by omega, h_.2⟩)]
theorem turnJ_no {R : Nat → Nat} {i j : Nat} (h : (R i).testBit j = false) : turnJ R i (j + 1) = turnJ R i j := by
  funext m
  unfold turnJ
  by_cases hm : m < j ∧ (R i).testBit m = true
  · rw [if_pos ⟨by omega, hm.2⟩, if_pos hm]
  · rw [if_neg hm, if_neg (fun h_ => hm ⟨(by
      have : m ≠ j := fun e => by rw [e, h] at h_; cases h_.2
      omega), h_.2⟩)]
theorem turnJ_zero (R : Nat → Nat) (i : Nat) : turnJ R i 0 = turnK R i := by funext m; simp [turnJ]
theorem turnJ_end {R : Nat → Nat} {i n m : Nat} (hm : m < n) : turnJ R i n m = turnK R (i + 1) m := by
  have hlt := ofP_lt (fun x => (R x).testBit m) i
  unfold turnJ
  cases hb : (R i).testBit m
  · rw [if_neg (by simp)]
    simp [turnK, ofP, hb]
  · rw [if_pos ⟨hm, rfl⟩]
    simp only [turnK, ofP, hb, if_true]
    exact (add_two_pow_or hlt).symm
theorem turnJ_lt (R : Nat → Nat) {i : Nat} (hi : i < 64) (j m : Nat) : turnJ R i j m < 2 ^ 64 := by
  unfold turnJ
  split
  · exact or_lt64 (turnK_lt R (by omega) m) hi
  · exact turnK_lt R (by omega) m
theorem ofR_len {l : List Int} (h : (ofR l).2.2 = 0) : l.length ≤ 64 ∧ okRel (rowsF l) l.length = true := by
  unfold ofR at h
  by_cases h64 : 64 < l.length
  · rw [if_pos h64] at h; cases h
  · rw [if_neg h64] at h
    cases ho : okRel (rowsF l) l.length
    · rw [ho, if_neg (by simp)] at h; cases h
    · exact ⟨by omega, rfl⟩
theorem u_nat {a : Int} (h : (Lit.int .u64 a).wf = true) : ∃ s : Nat, a = (s : Int) ∧ s < 2 ^ 64 := by
  have h1 : 0 ≤ a ∧ a ≤ 18446744073709551615 := by simpa [Lit.wf, IntKind.bits, IntKind.signed, IntKind.wrap, IntKind.min, IntKind.max] using h
  obtain ⟨s, rfl⟩ := Int.eq_ofNat_of_zero_le h1.1
  exact ⟨s, rfl, by omega⟩
theorem same_l0 {l : List Int} (h : l.length < 1000000) : ∀ (d i : Nat), l.length - i = d → i ≤ l.length → Ev (fun k => rampartref01_Same.l0 k l l (i : Int)) true
  | 0, i, hd, hi => by
    refine Ev.step (f := fun _ => some true) (fun k => ?_) (Ev.now _)
    simp only [rampartref01_Same.l0]
    rw [if_neg (by omega)]
  | d + 1, i, hd, hi => by
    refine Ev.step (fun k => ?_) (same_l0 h d (i + 1) (by omega) (by omega))
    simp only [rampartref01_Same.l0]
    have c1 : (i : Int) < (l.length : Int) := by omega
    rw [if_pos c1, if_pos (by omega), if_pos c1, w64_inc (by omega)]
    simp only [if_true]
theorem same_ev {l : List Int} (h : l.length < 1000000) : Ev (fun k => rampartref01_Same.f k l l) true := by
  unfold rampartref01_Same.f
  refine Ev.congr (f := fun k => rampartref01_Same.l0 k l l ((0 : Nat) : Int)) (fun k => ?_) (same_l0 h l.length 0 (by omega) (by omega))
  rw [if_pos rfl]
  rfl
section
variable {l : List Int} (hl : okU l) (h64 : l.length ≤ 64)
include hl h64
omit hl h64 in
end
theorem okUb_take {l : List Int} (h : ∀ x ∈ l, (Lit.int .u64 x).wf = true) : okUb (l.take 17) = true := by
  unfold okUb
  rw [List.all_eq_true]
  intro x hx
  obtain ⟨s, rfl, hs⟩ := u_nat (h x (List.mem_of_mem_take hx))
  simp
  omega
theorem check_b {l : List Int} (h : okUb l = true) : bits_Check.f l = some (ofR l).2.2 := if_pos h
theorem rowsF_I {G : Nat → Nat} {n i : Nat} (hi : i < n) : rowsF (rowsI G n) i = G i := by
  unfold rowsF rowsI
  rw [List.getD_eq_getElem?_getD, List.getElem?_map, List.getElem?_range hi]
  simp
theorem okUb_rows {G : Nat → Nat} {n : Nat} (h : ∀ i, i < n → G i < 2 ^ 64) : okUb (rowsI G n) = true := by
  unfold okUb rowsI
  rw [List.all_eq_true]
  intro x hx
  obtain ⟨i, hi, rfl⟩ := List.mem_map.1 hx
  have := h i (List.mem_range.1 hi)
  simp
  omega
theorem ofR_rows {G : Nat → Nat} {n : Nat} (hn : n ≤ 64) (h : ∀ i, i < n → G i < 2 ^ n) : (ofR (rowsI G n)).2.2 = 0 := by
  unfold ofR
  rw [rowsI_len, if_neg (by omega), if_pos (okRel_iff.2 fun i hi => by rw [rowsF_I hi]; exact h i hi)]
theorem pow64 {n s : Nat} (hn : n ≤ 64) (h : s < 2 ^ n) : s < 2 ^ 64 := Nat.lt_of_lt_of_le h (Nat.pow_le_pow_right (by decide) hn)
theorem turnK_n (R : Nat → Nat) (n j : Nat) : turnK R n j < 2 ^ n := ofP_lt _ n
theorem turnK_bit (R : Nat → Nat) (n i j : Nat) : (turnK R n j).testBit i = (decide (i < n) && (R i).testBit j) := by unfold turnK; rw [testBit_ofP]
end Go.Proofs.Ytlbjcmiegbejdaa.Q
