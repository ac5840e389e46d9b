/- Layer 1, plain: rows within rows; the closure is the least. -/
import Derived.Test.YtbbmibabjffcaaaP7
import Derived.Test.YtbbmibabjffcaaaQx10
namespace Go.Proofs.Ytbbmibabjffcaaa.Q
open Go.RowKit Go.Proofs.YtbbmibabjffcaaaW.PrintWords Go.Proofs.YtbbmibabjffcaaaW.PrintMore Go.Proofs.YtbbmibabjffcaaaW.PrintLast Go.Proofs.Ytbbmibabjffcaaa.Bm
set_option linter.unusedVariables false
set_option linter.unusedSimpArgs false
/-- Rows within rows. -/
def WIn (l m : List Int) : Prop := l.length = m.length ∧ ∀ i, i < l.length → ∀ x, (rowsF l i).testBit x = true → (rowsF m i).testBit x = true
section
variable {l m : List Int} (hl : okU l) (hm : okU m) (h66 : l.length < 1000000)
include hl hm h66
omit h66 in
theorem within_l1_eq {i x : Nat} (hi : i < l.length) (hi' : i < m.length) (hx : x < 64) (k : Nat) : rampartref01_Within.l1 (k + 1) l m (i : Int) (x : Int) = (rampartref01_Has.f k ((rowsF l i : Nat) : Int) (x : Int)).bind fun t => if t = true then (rampartref01_Has.f k ((rowsF m i : Nat) : Int) (x : Int)).bind fun t' => if t' = true then rampartref01_Within.l1 k l m (i : Int) ((x + 1 : Nat) : Int) else some false else rampartref01_Within.l1 k l m (i : Int) ((x + 1 : Nat) : Int) := by
  have c0 : (x : Int) < 64 := by omega
  have c1 : (0 : Int) ≤ (i : Int) := by omega
  have c2 : (i : Int) < (l.length : Int) := by omega
  have c3 : (i : Int) < (m.length : Int) := by omega
  simp only [rampartref01_Within.l1]
  simp only [if_pos c0, if_pos c1, if_pos c2, if_pos c3, rd_rows hl hi, rd_rows hm hi', w64_inc (show x < 1000000 by omega)]
omit hl hm in
theorem within_l1_end {i : Nat} (hi : i < l.length) (k : Nat) : rampartref01_Within.l1 (k + 1) l m (i : Int) ((64 : Nat) : Int) = rampartref01_Within.l0 k l m ((i + 1 : Nat) : Int) := by
  simp only [rampartref01_Within.l1]
  rw [if_neg (by omega), w64_inc (by omega)]
theorem within_l1_yes {i : Nat} (hi : i < l.length) (hi' : i < m.length) {b : Bool} (h : Ev (fun k => rampartref01_Within.l0 k l m ((i + 1 : Nat) : Int)) b) : ∀ (d x : Nat), 64 - x = d → x ≤ 64 → (∀ y, x ≤ y → y < 64 → (rowsF l i).testBit y = true → (rowsF m i).testBit y = true) → Ev (fun k => rampartref01_Within.l1 k l m (i : Int) (x : Int)) b
  | 0, x, hd, hx, hs => by
    obtain rfl : x = 64 := by omega
    exact Ev.step (fun k => within_l1_end h66 hi k) h
  | d + 1, x, hd, hx, hs => by
    have ih := within_l1_yes hi hi' h d (x + 1) (by omega) (by omega) (fun y hy => hs y (by omega))
    refine Ev.step (fun k => within_l1_eq hl hm hi hi' (by omega) k) (Ev.bind (has_nat (okU_at hl hi).2 (by omega)) ?_)
    cases hb : (rowsF l i).testBit x
    · exact Ev.congr (fun k => if_neg (by simp)) ih
    · have hb' := hs x (by omega) (by omega) hb
      refine Ev.congr (fun k => if_pos rfl) (Ev.bind (has_nat (okU_at hm hi').2 (by omega)) ?_)
      rw [hb']
      exact Ev.congr (fun k => if_pos rfl) ih
omit h66 in
theorem within_l1_no {i : Nat} (hi : i < l.length) (hi' : i < m.length) : ∀ (d x : Nat), 64 - x = d → x ≤ 64 → (∃ y, x ≤ y ∧ y < 64 ∧ (rowsF l i).testBit y = true ∧ (rowsF m i).testBit y = false) → Ev (fun k => rampartref01_Within.l1 k l m (i : Int) (x : Int)) false
  | 0, x, hd, hx, ⟨y, h1, h2, _⟩ => absurd h1 (by omega)
  | d + 1, x, hd, hx, ⟨y, h1, h2, h3, h4⟩ => by
    have ih := within_l1_no hi hi' d (x + 1) (by omega) (by omega)
    refine Ev.step (fun k => within_l1_eq hl hm hi hi' (by omega) k) (Ev.bind (has_nat (okU_at hl hi).2 (by omega)) ?_)
    cases hb : (rowsF l i).testBit x
    · have hne : x ≠ y := fun e => by rw [e, h3] at hb; cases hb
      exact Ev.congr (fun k => if_neg (by simp)) (ih ⟨y, by omega, h2, h3, h4⟩)
    · refine Ev.congr (fun k => if_pos rfl) (Ev.bind (has_nat (okU_at hm hi').2 (by omega)) ?_)
      cases hc : (rowsF m i).testBit x
      · exact Ev.congr (fun k => if_neg (by simp)) (Ev.now _)
      · have hne : x ≠ y := fun e => by rw [e, h4] at hc; cases hc
        exact Ev.congr (fun k => if_pos rfl) (ih ⟨y, by omega, h2, h3, h4⟩)
omit hl hm h66 in
theorem within_at {i : Nat} (hi : i < l.length) (hi' : i < m.length) {b : Bool} (h : Ev (fun k => rampartref01_Within.l1 k l m (i : Int) 0) b) : Ev (fun k => rampartref01_Within.l0 k l m (i : Int)) b := by
  refine Ev.step (f := fun k => rampartref01_Within.j1 k l m (i : Int) true) (fun k => ?_) (Ev.step (fun k => ?_) h)
  · simp only [rampartref01_Within.l0]
    rw [if_pos (by omega), decide_eq_true (by omega)]
  · simp only [rampartref01_Within.j1]
    rw [if_pos trivial]
omit hl hm h66 in
theorem within_out {i : Nat} (hi : l.length ≤ i ∨ m.length ≤ i) : Ev (fun k => rampartref01_Within.l0 k l m (i : Int)) ((l.length : Int) == (m.length : Int)) := by
  refine Ev.step (f := fun k => rampartref01_Within.j1 k l m (i : Int) false) (fun k => ?_) (Ev.step (f := fun _ => some ((l.length : Int) == (m.length : Int))) (fun k => ?_) (Ev.now _))
  · simp only [rampartref01_Within.l0]
    by_cases h : (i : Int) < (l.length : Int)
    · rw [if_pos h, decide_eq_false (by omega)]
    · rw [if_neg h]
  · simp only [rampartref01_Within.j1]
    rw [if_neg (by simp)]
theorem within_yes (hlen : l.length = m.length) (hs : ∀ i, i < l.length → ∀ x, (rowsF l i).testBit x = true → (rowsF m i).testBit x = true) : ∀ (d i : Nat), l.length - i = d → i ≤ l.length → Ev (fun k => rampartref01_Within.l0 k l m (i : Int)) true
  | 0, i, hd, hi => by
    have := within_out (l := l) (m := m) (i := i) (.inl (by omega))
    rwa [hlen, beq_self_eq_true] at this
  | d + 1, i, hd, hi => by
    have ih := within_yes hlen hs d (i + 1) (by omega) (by omega)
    exact within_at (by omega) (by omega) (within_l1_yes hl hm h66 (by omega) (by omega) ih 64 0 (by omega) (by omega) (fun y _ _ => hs i (by omega) y))
theorem within_no : ∀ (d i : Nat), l.length - i = d → i ≤ l.length → (l.length ≠ m.length ∨ ∃ r, i ≤ r ∧ r < l.length ∧ ∃ x, (rowsF l r).testBit x = true ∧ (rowsF m r).testBit x = false) → Ev (fun k => rampartref01_Within.l0 k l m (i : Int)) false
  | 0, i, hd, hi, h => by
    have := within_out (l := l) (m := m) (i := i) (.inl (by omega))
    have hne : l.length ≠ m.length := by
      rcases h with h | ⟨r, h1, h2, _⟩
      · exact h
      · omega
    rwa [beq_eq_false_iff_ne.2 (by omega)] at this
  | d + 1, i, hd, hi, h => by
    have q1 : l.length - (i + 1) = d := by clear h; omega
    have q2 : i + 1 ≤ l.length := by clear h; omega
    have q3 : i < l.length := by clear h; omega
    by_cases hi' : i < m.length
    · by_cases hrow : ∀ x, x < 64 → (rowsF l i).testBit x = true → (rowsF m i).testBit x = true
      · have h' : l.length ≠ m.length ∨ ∃ r, i + 1 ≤ r ∧ r < l.length ∧ ∃ x, (rowsF l r).testBit x = true ∧ (rowsF m r).testBit x = false := by
          rcases h with h | ⟨r, h1, h2, x, h3, h4⟩
          · exact .inl h
          · have hne : i ≠ r := fun e => by
              subst e
              have hx : x < 64 := by
                by_cases hx : x < 64
                · exact hx
                · rw [Nat.testBit_lt_two_pow (Nat.lt_of_lt_of_le (okU_at hl q3).2 (Nat.pow_le_pow_right (by decide) (by omega)))] at h3; cases h3
              rw [hrow x hx h3] at h4; cases h4
            exact .inr ⟨r, by omega, h2, x, h3, h4⟩
        have ih := within_no d (i + 1) q1 q2 h'
        exact within_at q3 hi' (within_l1_yes hl hm h66 q3 hi' ih 64 0 (by decide) (by decide) (fun y _ hy => hrow y hy))
      · obtain ⟨x, hx⟩ := Classical.not_forall.1 hrow
        obtain ⟨hx1, hx⟩ := Classical.not_imp.1 hx
        obtain ⟨hx2, hx3⟩ := Classical.not_imp.1 hx
        exact within_at q3 hi' (within_l1_no hl hm q3 hi' 64 0 (by decide) (by decide) ⟨x, Nat.zero_le _, hx1, hx2, Bool.eq_false_iff.2 hx3⟩)
    · have := within_out (l := l) (m := m) (i := i) (.inr (by omega))
      rwa [beq_eq_false_iff_ne.2 (by omega)] at this
theorem within_dec : ∃ b : Bool, Ev (fun k => rampartref01_Within.f k l m) b ∧ (b = true ↔ WIn l m) := by
  unfold rampartref01_Within.f
  by_cases h : WIn l m
  · exact ⟨true, within_yes hl hm h66 h.1 h.2 l.length 0 (by omega) (by omega), fun _ => h, fun _ => rfl⟩
  · refine ⟨false, within_no hl hm h66 l.length 0 (by omega) (by omega) ?_, fun e => (by cases e), fun h' => absurd h' h⟩
    by_cases hlen : l.length = m.length
    · refine .inr ?_
      have h2 : ¬ ∀ i, i < l.length → ∀ x, (rowsF l i).testBit x = true → (rowsF m i).testBit x = true := fun h2 => h ⟨hlen, h2⟩
      obtain ⟨i, h2⟩ := Classical.not_forall.1 h2
      obtain ⟨hi, h2⟩ := Classical.not_imp.1 h2
      obtain ⟨x, h2⟩ := Classical.not_forall.1 h2
      obtain ⟨hx, h2⟩ := Classical.not_imp.1 h2
      exact ⟨i, by omega, hi, x, hx, Bool.eq_false_iff.2 h2⟩
    · exact .inl hlen
end
theorem then_same {M : Nat → Nat} {n i : Nat} (hn : n ≤ 64) (hi : i < n) (hM : ∀ j, j < n → M j < 2 ^ n) (hr : ∀ j, j < n → (M j).testBit j = true) (ht : ∀ i j k, i < n → j < n → (M i).testBit j = true → (M j).testBit k = true → (M i).testBit k = true) : thenK M M n i = M i := by
  apply Nat.eq_of_testBit_eq
  intro k
  rw [Bool.eq_iff_iff, then_bit hn hi (hM i hi)]
  constructor
  · rintro ⟨j, hj, h1, h2⟩
    exact ht i j k hi hj h1 h2
  · intro h
    exact ⟨i, hi, hr i hi, h⟩
section
variable {l m : List Int} (hl : okUb l = true) (hm : okUb m = true) (he : (ofR l).2.2 = 0) (hm66 : m.length < 1000000)
include hl hm he hm66
omit hl hm hm66 in
/-- The closure's rows. -/
theorem least_c : ∃ c : List Int, closureR l = (c, 0) ∧ okUb c = true ∧ c.length = l.length ∧ thenR c c = (c, 0) ∧ (∀ i, i < l.length → rowsF c i = wouter (rowsF l) l.length l.length i) := by
  obtain ⟨h64, hok⟩ := ofR_len he
  have hM := okRel_iff.1 hok
  have hall : ∀ i, rowsF l i < 2 ^ l.length := fun i => by
    by_cases hi : i < l.length
    · exact hM i hi
    · rw [rowsF_out (by omega)]; exact Nat.two_pow_pos _
  have hC : ∀ i, wouter (rowsF l) l.length l.length i < 2 ^ l.length := fun i => wouter_lt (Nat.le_refl _) hall l.length i
  refine ⟨rowsI (wouter (rowsF l) l.length l.length) l.length, if_pos he, okUb_rows fun i hi => pow64 h64 (hC i), rowsI_len _ _, ?_, fun i hi => rowsF_I hi⟩
  have r := ofR_rows (G := wouter (rowsF l) l.length l.length) h64 fun i _ => hC i
  unfold thenR
  rw [if_pos r, if_pos r, if_pos rfl, rowsI_len]
  rw [rowsI_ext fun i hi => (thenK_ext h64 hi (by rw [rowsF_I hi]; exact hC i) (fun j hj => rowsF_I hj) (fun j hj => rowsF_I hj)).trans (then_same h64 hi (fun j _ => hC j) (fun j hj => T_refl hj _) (fun i j k hi hj h1 h2 => T_mid l.length (Nat.le_refl _) i j k hi hj h1 h2))]
omit hl he in
theorem least_l1 {c : List Int} (hc : okUb c = true) (hc66 : c.length < 1000000) (hf : (ofR m).2.2 = 0) (hin : (∀ i, i < m.length → (rowsF m i).testBit i = true) → WIn (thenR m m).1 m → WIn c m) : ∀ (d i : Nat), m.length - i = d → i ≤ m.length → (∀ r, r < i → (rowsF m r).testBit r = true) → Ev (fun k => rampartlaw01_BitsLeast.l1 k m c (i : Int)) true
  | 0, i, hd, hi, hr => by
    have h64 := (ofR_len hf).1
    have hok' := okRel_iff.1 (ofR_len hf).2
    obtain ⟨b1, w1, w1'⟩ := within_dec (l := (thenR m m).1) (m := m) (by
      unfold thenR
      rw [if_pos hf, if_pos hf, if_pos rfl]
      exact okU_of (okUb_rows fun j hj => pow64 h64 (then_ltn h64 hj (hok' j hj) hok'))) (okU_of hm) (thenR_len (by omega))
    obtain ⟨b2, w2, w2'⟩ := within_dec (okU_of hc) (okU_of hm) hc66
    refine Ev.step (f := fun k => ((rampartref01_Then.f k m m).bind fun bt281 => ((rampartref01_Within.f k bt281.1 m).bind fun t285 => (if t285 = true then ((rampartref01_Within.f k c m).bind fun t286 => (if t286 = true then ((rampartlaw01_alive.f k).bind fun t287 => (some t287)) else (some false))) else ((rampartlaw01_alive.f k).bind fun t288 => (some t288)))))) (fun k => ?_) (Ev.bind (then_ev (okU_of hm) (okU_of hm)) (Ev.bind w1 ?_))
    · simp only [rampartlaw01_BitsLeast.l1]
      rw [if_neg (by omega)]
    · cases b1 with
      | false => exact Ev.congr (fun k => if_neg (by simp)) (Ev.bind alive_ev (Ev.now _))
      | true =>
        have hb2 : b2 = true := w2'.2 (hin (fun r hr' => hr r (by omega)) (w1'.1 rfl))
        subst hb2
        exact Ev.congr (fun k => if_pos rfl) (Ev.bind w2 (Ev.congr (fun k => if_pos rfl) (Ev.bind alive_ev (Ev.now _))))
  | d + 1, i, hd, hi, hr => by
    have h64 := (ofR_len hf).1
    refine Ev.step (f := fun k => ((rampartref01_Has.f k ((rowsF m i : Nat) : Int) (i : Int)).bind fun t279 => (if t279 = true then (rampartlaw01_BitsLeast.l1 k m c ((i + 1 : Nat) : Int)) else ((rampartlaw01_alive.f k).bind fun t280 => (some t280))))) (fun k => ?_) (Ev.bind (has_nat (okU_at (okU_of hm) (by omega)).2 (by omega)) ?_)
    · simp only [rampartlaw01_BitsLeast.l1]
      rw [if_pos (by omega), if_pos (by omega), rd_rows (okU_of hm) (by omega), w64_inc (by omega)]
    · cases hb : (rowsF m i).testBit i
      · exact Ev.congr (fun k => if_neg (by simp)) (Ev.bind alive_ev (Ev.now _))
      · have ih := least_l1 hc hc66 hf hin d (i + 1) (by omega) (by omega) (fun r hr' => by
          by_cases e : r = i
          · rw [e]; exact hb
          · exact hr r (by omega))
        exact Ev.congr (fun k => if_pos rfl) ih
theorem least_l0 {c : List Int} (hc : okUb c = true) (hclen : c.length = l.length) (hC : ∀ i, i < l.length → rowsF c i = wouter (rowsF l) l.length l.length i) : ∀ (d i : Nat), c.length - i = d → i ≤ c.length → Ev (fun k => rampartlaw01_BitsLeast.l0 k l m c (i : Int)) true
  | 0, i, hd, hi => by
    obtain ⟨h64, hok⟩ := ofR_len he
    obtain ⟨b1, w1, w1'⟩ := within_dec (okU_of hl) (okU_of hm) (by omega)
    refine Ev.step (f := fun k => ((rampartref01_Check.f k m).bind fun t275 => (if t275 = 0 then ((rampartref01_Within.f k l m).bind fun t276 => (rampartlaw01_BitsLeast.j2 k m c (!t276))) else (rampartlaw01_BitsLeast.j2 k m c true)))) (fun k => ?_) (Ev.bind (check_ev (okU_of hm)) ?_)
    · simp only [rampartlaw01_BitsLeast.l0]
      rw [if_neg (by omega)]
    · have hj : Ev (fun k => rampartlaw01_BitsLeast.j2 k m c true) true := by
        refine Ev.step (f := fun k => (rampartlaw01_alive.f k).bind fun t277 => (some t277)) (fun k => ?_) (Ev.bind alive_ev (Ev.now _))
        simp only [rampartlaw01_BitsLeast.j2]
        rw [if_pos trivial]
      by_cases hf : (ofR m).2.2 = 0
      · refine Ev.congr (fun k => if_pos hf) (Ev.bind w1 ?_)
        cases b1 with
        | false => exact hj
        | true =>
          have hw := w1'.1 rfl
          obtain ⟨_, hok'⟩ := ofR_len hf
          have hB := okRel_iff.1 hok'
          have h64' := (ofR_len hf).1
          refine Ev.step (fun k => ?_) (least_l1 hm hm66 hc (by omega) hf (fun hr ht => ⟨by rw [hclen]; exact hw.1, fun i hi x hx => ?_⟩) m.length 0 (by omega) (by omega) (fun r h => absurd h (by omega)))
          · simp only [rampartlaw01_BitsLeast.j2]
            rw [if_neg (by simp)]
            rfl
          · rw [hC i (by omega)] at hx
            refine T_least (fun i k => (rowsF m i).testBit k = true) (fun i hi => hr i (by have := hw.1; omega)) (fun i k hi hk => hw.2 i hi k hk) (fun i j k hi hj h1 h2 => ?_) l.length (Nat.le_refl _) i x (by omega) hx
            have hlen := hw.1
            have e : (thenR m m).1 = rowsI (thenK (rowsF m) (rowsF m) m.length) m.length := by unfold thenR; rw [if_pos hf, if_pos hf, if_pos rfl]
            refine ht.2 i (by rw [e, rowsI_len]; omega) k ?_
            rw [e, rowsF_I (by omega), then_bit h64' (by omega) (hB i (by omega))]
            exact ⟨j, by omega, h1, h2⟩
      · exact Ev.congr (fun k => if_neg hf) hj
  | d + 1, i, hd, hi => by
    obtain ⟨h64, hok⟩ := ofR_len he
    have ih := least_l0 hc hclen hC d (i + 1) (by omega) (by omega)
    refine Ev.step (f := fun k => ((rampartref01_Has.f k ((rowsF c i : Nat) : Int) (i : Int)).bind fun t274 => (if t274 = true then (rampartlaw01_BitsLeast.l0 k l m c ((i + 1 : Nat) : Int)) else (some false)))) (fun k => ?_) (Ev.bind (has_nat (okU_at (okU_of hc) (by omega)).2 (by omega)) ?_)
    · simp only [rampartlaw01_BitsLeast.l0]
      rw [if_pos (by omega), if_pos (by omega), rd_rows (okU_of hc) (by omega), w64_inc (by omega)]
    · rw [hC i (by omega), T_refl (by omega)]
      exact Ev.congr (fun k => if_pos rfl) ih
end
theorem least_ev {l0 l1 : List Int} (h0 : okUb (l0.take 66) = true) (h1 : okUb (l1.take 66) = true) : Ev (fun k => rampartlaw01_BitsLeast.f k l0 l1) true := by
  have e1 := take_len l1
  unfold rampartlaw01_BitsLeast.f
  generalize l0.take 66 = l at *
  generalize l1.take 66 = m at *
  simp only [Option.bind_some, closure_b h0]
  by_cases he : (ofR l).2.2 = 0
  · obtain ⟨c, hc, hcu, hclen, hthen, hC⟩ := least_c he
    have h64 := (ofR_len he).1
    obtain ⟨b, w, w'⟩ := within_dec (okU_of h0) (okU_of hcu) (by omega)
    have hb : b = true := w'.2 ⟨hclen.symm, fun i hi x hx => by rw [hC i hi]; exact T_base hi hx _⟩
    subst hb
    rw [hc]
    simp only [if_true, then_b hcu hcu, hthen, Option.bind_some]
    refine Ev.bind (same_ev (by omega)) (Ev.congr (fun k => if_pos rfl) (Ev.bind w ?_))
    refine Ev.step (fun k => ?_) (least_l0 h0 h1 he (by omega) hcu hclen hC c.length 0 (by omega) (by omega))
    simp only [rampartlaw01_BitsLeast.j0]
    rw [if_neg (by simp)]
    rfl
  · have a1 : (closureR l).2 ≠ 0 := by unfold closureR; rw [if_neg he]; exact he
    exact Ev.congr (fun k => if_neg a1) (Ev.bind (check_ev (okU_of h0)) (Ev.congr (fun k => if_neg he) (Ev.bind alive_ev (Ev.now _))))
end Go.Proofs.Ytbbmibabjffcaaa.Q
