/- Layer 1, plain: what the reference's Rank, Nth, Check and Turn answer. -/
import Derived.Test.YtbbmibabjffcaaaP1
namespace Go.Proofs.Ytbbmibabjffcaaa.Q
open Go.RowKit Go.Proofs.YtbbmibabjffcaaaW.PrintWords Go.Proofs.YtbbmibabjffcaaaW.PrintMore Go.Proofs.YtbbmibabjffcaaaW.PrintLast Go.Proofs.Ytbbmibabjffcaaa.Bm
set_option linter.unusedVariables false
set_option linter.unusedSimpArgs false
theorem pfx_mem {s : Nat} : ∀ (k : Nat) (x : Fin 64), x ∈ pfx s k ↔ x.val < k ∧ s.testBit x.val = true
  | 0, x => by simp [pfx]
  | k + 1, x => by
    have ih := pfx_mem (s := s) k x
    simp only [pfx, List.mem_append, ih]
    by_cases hk : k < 64
    · rw [dif_pos hk]
      cases hb : s.testBit k
      · simp only [Bool.false_eq_true, if_false, List.not_mem_nil, or_false]
        constructor
        · exact fun h => ⟨by omega, h.2⟩
        · intro h
          refine ⟨?_, h.2⟩
          have : x.val ≠ k := fun e => by rw [e, hb] at h; cases h.2
          omega
      · simp only [if_true, List.mem_singleton]
        constructor
        · rintro (h | h)
          · exact ⟨by omega, h.2⟩
          · subst h; exact ⟨by simp, hb⟩
        · intro h
          by_cases e : x.val = k
          · exact .inr (Fin.ext e)
          · exact .inl ⟨by omega, h.2⟩
    · rw [dif_neg hk]
      simp only [List.not_mem_nil, or_false]
      have := x.2
      constructor
      · exact fun h => ⟨by omega, h.2⟩
      · exact fun h => ⟨by omega, h.2⟩
theorem pfx_last {s : Nat} : ∀ (k : Nat) (q : List (Fin 64)) (x : Fin 64), pfx s k = q ++ [x] → ∀ y ∈ pfx s k, y.val ≤ x.val
  | 0, q, x, h => by simp [pfx] at h
  | k + 1, q, x, h => by
    by_cases hk : k < 64
    · cases hb : s.testBit k
      · rw [pfx_no hb] at h ⊢
        exact pfx_last k q x h
      · rw [pfx_yes hk hb] at h
        have hx : x = ⟨k, hk⟩ := by
          have := congrArg List.getLast? h
          simp at this
          exact this.symm
        subst hx
        intro y hy
        have := ((pfx_mem (k + 1) y).1 hy).1
        show y.val ≤ k
        omega
    · have e : pfx s (k + 1) = pfx s k := by simp [pfx, hk]
      rw [e] at h ⊢
      exact pfx_last k q x h
theorem top_ge {s n : Nat} (hs : s < 2 ^ 64) {q : List (Fin 64)} {x : Fin 64} (h : pfx s 64 = q ++ [x]) : n ≤ x.val ↔ 2 ^ n ≤ s := by
  have hx : x ∈ pfx s 64 := by rw [h]; simp
  have hb := ((pfx_mem 64 x).1 hx).2
  constructor
  · intro hn
    have h1 : 2 ^ x.val ≤ s := by
      by_cases h_ : s < 2 ^ x.val
      · rw [Nat.testBit_lt_two_pow h_] at hb; cases hb
      · omega
    exact Nat.le_trans (Nat.pow_le_pow_right (by decide) hn) h1
  · intro hn
    by_cases hc : n ≤ x.val
    · exact hc
    · have : s < 2 ^ n := Nat.lt_pow_two_of_testBit s fun i hi => by
        cases hi' : s.testBit i
        · rfl
        · have hi64 : i < 64 := by
            by_cases h64 : i < 64
            · exact h64
            · rw [Nat.testBit_lt_two_pow (Nat.lt_of_lt_of_le hs (Nat.pow_le_pow_right (by decide) (by omega)))] at hi'; cases hi'
          have := pfx_last 64 q x h ⟨i, hi64⟩ ((pfx_mem 64 _).2 ⟨hi64, hi'⟩)
          have h3 : i ≤ x.val := this
          omega
      omega
theorem pfx_nil {s : Nat} (hs : s < 2 ^ 64) (h : pfx s 64 = []) : s = 0 := by
  apply Nat.eq_of_testBit_eq
  intro i
  rw [Nat.zero_testBit]
  cases hi : s.testBit i
  · rfl
  · have hi64 : i < 64 := by
      by_cases h64 : i < 64
      · exact h64
      · rw [Nat.testBit_lt_two_pow (Nat.lt_of_lt_of_le hs (Nat.pow_le_pow_right (by decide) (by omega)))] at hi; cases hi
    have := (pfx_mem 64 (⟨i, hi64⟩ : Fin 64)).2 ⟨hi64, hi⟩
    rw [h] at this
    cases this
theorem rank_more {s i : Nat} {a : Int} (ha : a ≤ (i : Int)) (hi : i = 0 ∨ (i : Int) ≤ a) : ∀ m, i + m ≤ 64 → ((pfx s (i + m)).filter fun x => decide (((x.val : Nat) : Int) < a)).length = (pfx s i).length
  | 0, h => by
    rw [Nat.add_zero, List.filter_eq_self.2]
    intro x hx
    have := ((pfx_mem i x).1 hx).1
    exact decide_eq_true (by omega)
  | m + 1, h => by
    have ih := rank_more (s := s) ha hi m (by omega)
    rw [show i + (m + 1) = (i + m) + 1 by omega]
    cases hb : s.testBit (i + m)
    · rw [pfx_no hb]; exact ih
    · rw [pfx_yes (by omega) hb, List.filter_append, List.length_append, ih]
      have : decide ((((⟨i + m, by omega⟩ : Fin 64).val : Nat) : Int) < a) = false := decide_eq_false (by show ¬ (((i + m : Nat) : Int) < a); omega)
      simp [this]
      omega
theorem rank_full {s : Nat} {a : Int} (ha : (64 : Int) ≤ a) : ((pfx s 64).filter fun x => decide (((x.val : Nat) : Int) < a)).length = (pfx s 64).length := by
  rw [List.filter_eq_self.2]
  intro x hx
  have := x.2
  exact decide_eq_true (by omega)
theorem rank_l0 {s : Nat} (hs : s < 2 ^ 64) (a : Int) : ∀ (d i : Nat), 64 - i = d → i ≤ 64 → (i = 0 ∨ (i : Int) ≤ a) →
    Ev (fun k => rampartref01_Rank.l0 k (s : Int) a ((pfx s i).length : Nat) (i : Int)) (((pfx s 64).filter fun x => decide (((x.val : Nat) : Int) < a)).length : Nat)
  | 0, i, hd, hi, hia => by
    obtain rfl : i = 64 := by omega
    have e : ((pfx s 64).filter fun x => decide (((x.val : Nat) : Int) < a)).length = (pfx s 64).length := rank_full (by omega)
    rw [e]
    refine Ev.step (f := fun k => rampartref01_Rank.j1 k (s : Int) a ((pfx s 64).length : Nat) ((64 : Nat) : Int) false) (fun k => ?_) (Ev.step (f := fun _ => some (((pfx s 64).length : Nat) : Int)) (fun k => ?_) (Ev.now _))
    · simp only [rampartref01_Rank.l0]; rw [if_neg (by omega)]
    · simp only [rampartref01_Rank.j1]; rw [if_neg (by simp)]
  | d + 1, i, hd, hi, hia => by
    refine Ev.step (f := fun k => rampartref01_Rank.j1 k (s : Int) a ((pfx s i).length : Nat) (i : Int) (decide ((i : Int) < a))) (fun k => ?_) ?_
    · simp only [rampartref01_Rank.l0]; rw [if_pos (by omega)]
    · by_cases hlt : (i : Int) < a
      · have ih := rank_l0 hs a d (i + 1) (by omega) (by omega) (.inr (by omega))
        rw [decide_eq_true hlt]
        have hl := pfx_length s i
        refine Ev.step (f := fun k => (rampartref01_Has.f k (s : Int) (i : Int)).bind fun t => if t = true then rampartref01_Rank.l0 k (s : Int) a (((pfx s i).length + 1 : Nat) : Int) ((i + 1 : Nat) : Int) else rampartref01_Rank.l0 k (s : Int) a ((pfx s i).length : Nat) ((i + 1 : Nat) : Int)) (fun k => ?_) ?_
        · simp only [rampartref01_Rank.j1]
          rw [if_pos trivial, w64_inc (by omega), w64_inc (by omega)]
        · refine Ev.bind (has_nat hs (by omega)) ?_
          cases hb : s.testBit i
          · rw [pfx_no hb] at ih
            simpa using ih
          · rw [pfx_yes (by omega) hb, List.length_append, List.length_singleton] at ih
            simpa using ih
      · rw [decide_eq_false hlt]
        refine Ev.step (f := fun _ => some (((pfx s i).length : Nat) : Int)) (fun k => ?_) ?_
        · simp only [rampartref01_Rank.j1]; rw [if_neg (by simp)]
        · have e := rank_more (s := s) (i := i) (a := a) (by omega) hia (64 - i) (by omega)
          rw [show i + (64 - i) = 64 by omega] at e
          rw [e]
          exact Ev.now _
theorem rank_ev {s : Nat} (hs : s < 2 ^ 64) (a : Int) : Ev (fun k => rampartref01_Rank.f k (s : Int) a) (((pfx s 64).filter fun x => decide (((x.val : Nat) : Int) < a)).length : Nat) := by
  unfold rampartref01_Rank.f
  have := rank_l0 hs a 64 0 rfl (by omega) (.inl rfl)
  simpa [pfx] using this
theorem rd_vals {l : List (Fin 64)} {i : Nat} (h : i < l.length) : rd (vals l) (i : Int) = ((l[i].val : Nat) : Int) := by
  unfold rd vals
  rw [List.getD_eq_getElem?_getD, Int.toNat_natCast, List.getElem?_map, List.getElem?_eq_getElem h]
  rfl
theorem nth_ev {s : Nat} (hs : s < 2 ^ 64) (a : Int) : Ev (fun k => rampartref01_Nth.f k (s : Int) a) (nthR (pfx s 64) a) := by
  unfold rampartref01_Nth.f
  refine Ev.bind (list_ev hs) ?_
  have hv := vals_len (pfx s 64)
  by_cases h0 : a < 0
  · rw [if_pos h0, nthR_miss (.inl h0)]
    exact Ev.now _
  · rw [if_neg h0]
    by_cases h1 : a ≥ ((vals (pfx s 64)).length : Int)
    · rw [if_pos h1, nthR_miss (.inr (by omega))]
      exact Ev.now _
    · obtain ⟨i, rfl⟩ := Int.eq_ofNat_of_zero_le (by omega : 0 ≤ a)
      rw [if_neg h1, if_pos (by omega), if_pos (by omega), rd_vals (by omega)]
      have e : nthR (pfx s 64) (i : Int) = (((((pfx s 64)[i]'(by omega)).val : Nat) : Int), true) := by
        unfold nthR
        rw [if_pos (by omega), Int.toNat_natCast, List.getElem?_eq_getElem (by omega)]
      rw [e]
      exact Ev.now _
theorem rd_rows {l : List Int} (h : okU l) {i : Nat} (hi : i < l.length) : rd l (i : Int) = ((rowsF l i : Nat) : Int) := by
  unfold rd
  rw [List.getD_eq_getElem?_getD, Int.toNat_natCast, (okU_at h hi).1]
  rfl
/-- One round of the reference's check. -/
theorem check_step {l : List Int} (hl : okU l) (h64 : l.length ≤ 64) {i : Nat} (hi : i < l.length) {r : Int} (h : rowsF l i < 2 ^ l.length → Ev (fun k => rampartref01_Check.l0 k l ((i + 1 : Nat) : Int)) r) (h' : 2 ^ l.length ≤ rowsF l i → r = 10) :
    Ev (fun k => rampartref01_Check.l0 k l (i : Int)) r := by
  have hR := (okU_at hl hi).2
  refine Ev.step (f := fun k => (rampartref01_List.f k ((rowsF l i : Nat) : Int)).bind fun t => if (t.length : Int) > 0 then (if 0 ≤ wrap64 ((t.length : Int) - 1) then (if wrap64 ((t.length : Int) - 1) < (t.length : Int) then (if rd t (wrap64 ((t.length : Int) - 1)) ≥ (l.length : Int) then some 10 else rampartref01_Check.l0 k l ((i + 1 : Nat) : Int)) else none) else none) else rampartref01_Check.l0 k l ((i + 1 : Nat) : Int)) (fun k => ?_) ?_
  · simp only [rampartref01_Check.l0]
    rw [if_pos (by omega), if_pos (by omega), rd_rows hl hi, w64_inc (by omega)]
  · refine Ev.bind (list_ev hR) ?_
    have hv := vals_len (pfx (rowsF l i) 64)
    have hp64 := pfx_length (rowsF l i) 64
    rcases List.eq_nil_or_concat (pfx (rowsF l i) 64) with hn | ⟨q, x, hq⟩
    · have h0 := pfx_nil hR hn
      rw [hn]
      have := Nat.two_pow_pos l.length
      simpa [vals] using h (by omega)
    · rw [List.concat_eq_append] at hq
      have hlen : (pfx (rowsF l i) 64).length = q.length + 1 := by rw [hq]; simp
      have e1 : wrap64 (((vals (pfx (rowsF l i) 64)).length : Int) - 1) = ((q.length : Nat) : Int) := by rw [hv, hlen]; exact w64_dec (by omega)
      have e2 : rd (vals (pfx (rowsF l i) 64)) ((q.length : Nat) : Int) = ((x.val : Nat) : Int) := by
        rw [rd_vals (by omega)]
        simp [hq]
      have ht := top_ge (n := l.length) hR hq
      by_cases hge : l.length ≤ x.val
      · rw [h' (ht.1 hge)]
        refine Ev.congr (f := fun _ => some 10) (fun k => ?_) (Ev.now _)
        rw [if_pos (by omega), e1, if_pos (by omega), if_pos (by omega), e2, if_pos (by omega)]
      · refine Ev.congr (f := fun k => rampartref01_Check.l0 k l ((i + 1 : Nat) : Int)) (fun k => ?_) (h (by have := fun h_ => hge (ht.2 h_); omega))
        rw [if_pos (by omega), e1, if_pos (by omega), if_pos (by omega), e2, if_neg (by omega)]
theorem check_ok {l : List Int} (hl : okU l) (h64 : l.length ≤ 64) : ∀ (d i : Nat), l.length - i = d → i ≤ l.length → (∀ j, i ≤ j → j < l.length → rowsF l j < 2 ^ l.length) → Ev (fun k => rampartref01_Check.l0 k l (i : Int)) 0
  | 0, i, hd, hi, h => by
    refine Ev.step (f := fun _ => some 0) (fun k => ?_) (Ev.now _)
    simp only [rampartref01_Check.l0]
    rw [if_neg (by omega)]
  | d + 1, i, hd, hi, h => check_step hl h64 (by omega) (fun _ => check_ok hl h64 d (i + 1) (by omega) (by omega) (fun j hj hjl => h j (by omega) hjl)) (fun h_ => absurd (h i (by omega) (by omega)) (by omega))
theorem check_no {l : List Int} (hl : okU l) (h64 : l.length ≤ 64) : ∀ (d i : Nat), l.length - i = d → i ≤ l.length → (∃ j, i ≤ j ∧ j < l.length ∧ 2 ^ l.length ≤ rowsF l j) → Ev (fun k => rampartref01_Check.l0 k l (i : Int)) 10
  | 0, i, hd, hi, ⟨j, h1, h2, h3⟩ => absurd h1 (by omega)
  | d + 1, i, hd, hi, ⟨j, h1, h2, h3⟩ => check_step hl h64 (by omega) (fun hlt => check_no hl h64 d (i + 1) (by omega) (by omega) ⟨j, (by
      by_cases e : i = j
      · subst e; omega
      · omega), h2, h3⟩) (fun _ => rfl)
theorem check_ev {l : List Int} (hl : okU l) : Ev (fun k => rampartref01_Check.f k l) (ofR l).2.2 := by
  unfold rampartref01_Check.f
  unfold ofR
  by_cases h64 : 64 < l.length
  · rw [if_pos h64]
    refine Ev.congr (f := fun _ => some 3) (fun k => ?_) (Ev.now _)
    rw [if_pos (by omega)]
  · rw [if_neg h64]
    refine Ev.congr (f := fun k => rampartref01_Check.l0 k l 0) (fun k => ?_) ?_
    · rw [if_neg (by omega)]
    · cases h : okRel (rowsF l) l.length
      · rw [if_neg (by simp)]
        have hn : ¬ ∀ i, i < l.length → rowsF l i < 2 ^ l.length := fun h_ => by rw [okRel_iff.2 h_] at h; cases h
        obtain ⟨j, hj⟩ := Classical.not_forall.1 hn
        obtain ⟨hj1, hj2⟩ := Classical.not_imp.1 hj
        exact check_no hl (by omega) l.length 0 (by omega) (by omega) ⟨j, by omega, hj1, by omega⟩
      · rw [if_pos rfl]
        exact check_ok hl (by omega) l.length 0 (by omega) (by omega) (fun j _ hj => okRel_iff.1 h j hj)
theorem rd_rowsI {F : Nat → Nat} {n j : Nat} (h : j < n) : rd (rowsI F n) (j : Int) = ((F j : Nat) : Int) := by
  unfold rd rowsI
  rw [List.getD_eq_getElem?_getD, Int.toNat_natCast, List.getElem?_map, List.getElem?_range h]
  rfl
theorem set_rowsI {F : Nat → Nat} {n j v : Nat} : (rowsI F n).set j ((v : Nat) : Int) = rowsI (upd F j v) n := by
  apply List.ext_getElem?
  intro i
  rw [List.getElem?_set]
  unfold rowsI
  by_cases h : j = i
  · subst h
    rw [if_pos rfl]
    by_cases hj : j < n
    · rw [if_pos (by simpa using hj), List.getElem?_map, List.getElem?_range hj]
      simp [upd]
    · rw [if_neg (by simpa using hj), List.getElem?_eq_none (by simp; omega)]
  · rw [if_neg h]
    by_cases hi : i < n
    · rw [List.getElem?_map, List.getElem?_range hi, List.getElem?_map, List.getElem?_range hi]
      simp [upd, show ¬ i = j by omega]
    · rw [List.getElem?_eq_none (by simp; omega), List.getElem?_eq_none (by simp; omega)]
theorem rowsI_ext {F G : Nat → Nat} {n : Nat} (h : ∀ i, i < n → F i = G i) : rowsI F n = rowsI G n := by
  unfold rowsI
  exact List.map_congr_left fun i hi => by rw [h i (List.mem_range.1 hi)]
theorem rep_rowsI (n : Nat) : List.replicate n (0 : Int) = rowsI (fun _ => 0) n := by
  apply List.ext_getElem?
  intro i
  unfold rowsI
  by_cases hi : i < n
  · rw [List.getElem?_map, List.getElem?_range hi, List.getElem?_replicate_of_lt hi]; rfl
  · rw [List.getElem?_eq_none (by simp; omega), List.getElem?_eq_none (by simp; omega)]
/-- The turned rows, i rows taken, and of row i what lies below j. -/
def turnJ (R : Nat → Nat) (i j : Nat) : Nat → Nat := fun m => if m < j ∧ (R i).testBit m = true then turnK R i m ||| 2 ^ i else turnK R i m
theorem turnJ_yes {R : Nat → Nat} {i j : Nat} (h : (R i).testBit j = true) : upd (turnJ R i j) j (turnJ R i j j ||| 2 ^ i) = turnJ R i (j + 1) := by
  funext m
  unfold upd turnJ
  by_cases e : m = j
  · subst e
    rw [if_pos rfl, if_neg (by omega), if_pos ⟨by omega, h⟩]
  · rw [if_neg e]
    by_cases hm : m < j ∧ (R i).testBit m = true
    · rw [if_pos hm, if_pos ⟨by omega, hm.2⟩]
    · rw [if_neg hm, if_neg (fun h_ => hm ⟨by omega, h_.2⟩)]
theorem turnJ_no {R : Nat → Nat} {i j : Nat} (h : (R i).testBit j = false) : turnJ R i (j + 1) = turnJ R i j := by
  funext m
  unfold turnJ
  by_cases hm : m < j ∧ (R i).testBit m = true
  · rw [if_pos ⟨by omega, hm.2⟩, if_pos hm]
  · rw [if_neg hm, if_neg (fun h_ => hm ⟨(by
      have : m ≠ j := fun e => by rw [e, h] at h_; cases h_.2
      omega), h_.2⟩)]
theorem turnJ_zero (R : Nat → Nat) (i : Nat) : turnJ R i 0 = turnK R i := by funext m; simp [turnJ]
theorem turnJ_end {R : Nat → Nat} {i n m : Nat} (hm : m < n) : turnJ R i n m = turnK R (i + 1) m := by
  have hlt := ofP_lt (fun x => (R x).testBit m) i
  unfold turnJ
  cases hb : (R i).testBit m
  · rw [if_neg (by simp)]
    simp [turnK, ofP, hb]
  · rw [if_pos ⟨hm, rfl⟩]
    simp only [turnK, ofP, hb, if_true]
    exact (add_two_pow_or hlt).symm
theorem turnJ_lt (R : Nat → Nat) {i : Nat} (hi : i < 64) (j m : Nat) : turnJ R i j m < 2 ^ 64 := by
  unfold turnJ
  split
  · exact or_lt64 (turnK_lt R (by omega) m) hi
  · exact turnK_lt R (by omega) m
theorem turn_l1 {l : List Int} (hl : okU l) (h64 : l.length ≤ 64) {i : Nat} (hi : i < l.length) {r : List Int × Int}
    (h : Ev (fun k => rampartref01_Turn.l0 k l (rowsI (turnK (rowsF l) (i + 1)) l.length) ((i + 1 : Nat) : Int)) r) : ∀ (d j : Nat), l.length - j = d → j ≤ l.length →
    Ev (fun k => rampartref01_Turn.l1 k l (rowsI (turnJ (rowsF l) i j) l.length) (i : Int) (j : Int)) r
  | 0, j, hd, hj => by
    refine Ev.step (fun k => ?_) h
    simp only [rampartref01_Turn.l1]
    rw [if_neg (by omega), w64_inc (by omega), rowsI_ext (fun m hm => turnJ_end (n := j) (by omega))]
  | d + 1, j, hd, hj => by
    have ih := turn_l1 hl h64 hi h d (j + 1) (by omega) (by omega)
    refine Ev.step (f := fun k => (rampartref01_Has.f k ((rowsF l i : Nat) : Int) (j : Int)).bind fun t => if t = true then (rampartref01_with.f k ((turnJ (rowsF l) i j j : Nat) : Int) (i : Int)).bind fun t' => rampartref01_Turn.l1 k l ((rowsI (turnJ (rowsF l) i j) l.length).set j t') (i : Int) ((j + 1 : Nat) : Int) else rampartref01_Turn.l1 k l (rowsI (turnJ (rowsF l) i j) l.length) (i : Int) ((j + 1 : Nat) : Int)) (fun k => ?_) ?_
    · simp only [rampartref01_Turn.l1]
      have hln := rowsI_len (turnJ (rowsF l) i j) l.length
      have c1 : (0 : Int) ≤ (j : Int) := by omega
      have c2 : (j : Int) < (((rowsI (turnJ (rowsF l) i j) l.length).length : Nat) : Int) := by omega
      rw [if_pos (by omega), if_pos (by omega), if_pos (by omega), rd_rows hl hi, w64_inc (by omega), rd_rowsI (by omega), Int.toNat_natCast]
      simp only [if_pos c1, if_pos c2]
    · refine Ev.bind (has_nat (okU_at hl hi).2 (by omega)) ?_
      cases hb : (rowsF l i).testBit j
      · rw [turnJ_no hb] at ih
        simpa using ih
      · rw [← turnJ_yes hb] at ih
        refine Ev.congr (fun k => if_pos rfl) (Ev.bind (with_ev (turnJ_lt _ (by omega) _ _) (by omega)) ?_)
        simp only [set_rowsI]
        exact ih
theorem turn_l0 {l : List Int} (hl : okU l) (h64 : l.length ≤ 64) : ∀ (d i : Nat), l.length - i = d → i ≤ l.length →
    Ev (fun k => rampartref01_Turn.l0 k l (rowsI (turnK (rowsF l) i) l.length) (i : Int)) (rowsI (turnK (rowsF l) l.length) l.length, 0)
  | 0, i, hd, hi => by
    obtain rfl : i = l.length := by omega
    refine Ev.step (f := fun _ => some (rowsI (turnK (rowsF l) l.length) l.length, 0)) (fun k => ?_) (Ev.now _)
    simp only [rampartref01_Turn.l0]
    rw [if_neg (by omega)]
  | d + 1, i, hd, hi => by
    have ih := turn_l0 hl h64 d (i + 1) (by omega) (by omega)
    refine Ev.step (fun k => ?_) (turn_l1 hl h64 (by omega) ih l.length 0 (by omega) (by omega))
    simp only [rampartref01_Turn.l0]
    rw [if_pos (by omega), turnJ_zero]
    rfl
theorem ofR_len {l : List Int} (h : (ofR l).2.2 = 0) : l.length ≤ 64 ∧ okRel (rowsF l) l.length = true := by
  unfold ofR at h
  by_cases h64 : 64 < l.length
  · rw [if_pos h64] at h; cases h
  · rw [if_neg h64] at h
    cases ho : okRel (rowsF l) l.length
    · rw [ho, if_neg (by simp)] at h; cases h
    · exact ⟨by omega, rfl⟩
/-- Turned, by the document. -/
def turnR (l : List Int) : List Int × Int := if (ofR l).2.2 = 0 then (rowsI (turnK (rowsF l) l.length) l.length, 0) else ([], (ofR l).2.2)
theorem turn_ev {l : List Int} (hl : okU l) : Ev (fun k => rampartref01_Turn.f k l) (turnR l) := by
  unfold rampartref01_Turn.f turnR
  refine Ev.bind (check_ev hl) ?_
  by_cases he : (ofR l).2.2 = 0
  · have h64 := (ofR_len he).1
    have h := turn_l0 hl h64 l.length 0 (by omega) (by omega)
    rw [turnK_zero, ← rep_rowsI] at h
    rw [if_pos he]
    refine Ev.congr (fun k => ?_) h
    rw [if_pos he, if_pos (by omega), if_pos (by simp; omega), Int.toNat_natCast]
    rfl
  · rw [if_neg he]
    refine Ev.congr (f := fun _ => some (([], (ofR l).2.2) : List Int × Int)) (fun k => ?_) (Ev.now _)
    rw [if_neg he]
end Go.Proofs.Ytbbmibabjffcaaa.Q
