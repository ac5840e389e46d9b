/- Layer 1, plain: the laws over relations, closures, and what is handed in. -/
import Derived.Test.YtbbmibabjffcaaaP4
import Derived.Test.YtbbmibabjffcaaaQx10
import Derived.Test.YtbbmibabjffcaaaQx11
namespace Go.Proofs.Ytbbmibabjffcaaa.Q
open Go.RowKit Go.Proofs.YtbbmibabjffcaaaW.PrintWords Go.Proofs.YtbbmibabjffcaaaW.PrintMore Go.Proofs.YtbbmibabjffcaaaW.PrintLast Go.Proofs.Ytbbmibabjffcaaa.Bm
set_option linter.unusedVariables false
set_option linter.unusedSimpArgs false
theorem okUb_take {l : List Int} (h : ∀ x ∈ l, (Lit.int .u64 x).wf = true) : okUb (l.take 66) = true := by
  unfold okUb
  rw [List.all_eq_true]
  intro x hx
  obtain ⟨s, rfl, hs⟩ := u_nat (h x (List.mem_of_mem_take hx))
  simp
  omega
theorem take_len (l : List Int) : (l.take 66).length ≤ 66 := by rw [List.length_take]; omega
theorem check_b {l : List Int} (h : okUb l = true) : bits_Check.f l = some (ofR l).2.2 := if_pos h
theorem turn_b {l : List Int} (h : okUb l = true) : bits_Turn.f l = some (turnR l) := by
  unfold bits_Turn.f turnR
  rw [if_pos h]
  split <;> rfl
theorem closure_b {l : List Int} (h : okUb l = true) : bits_Closure.f l = some (closureR l) := by
  unfold bits_Closure.f closureR
  rw [if_pos h]
  split <;> rfl
theorem then_b {l m : List Int} (h : okUb l = true) (h' : okUb m = true) : bits_Then.f l m = some (thenR l m) := by
  unfold bits_Then.f thenR
  rw [if_pos h, if_pos h']
  split
  · split
    · split <;> rfl
    · rfl
  · rfl
theorem reach_b {l : List Int} (h : okUb l = true) (i : Int) : bits_Reach.f l i = some (reachR l i) := by
  unfold bits_Reach.f reachR
  rw [if_pos h]
  split
  · split <;> rfl
  · rfl
theorem turnR_len {l : List Int} (h : l.length ≤ 66) : (turnR l).1.length < 1000000 := by
  unfold turnR
  split
  · rw [rowsI_len]; omega
  · simp
theorem closureR_len {l : List Int} (h : l.length ≤ 66) : (closureR l).1.length < 1000000 := by
  unfold closureR
  split
  · rw [rowsI_len]; omega
  · simp
theorem thenR_len {l m : List Int} (h : l.length ≤ 66) : (thenR l m).1.length < 1000000 := by
  unfold thenR
  split
  · split
    · split
      · rw [rowsI_len]; omega
      · simp
    · simp
  · simp
theorem relations_ev {l0 l1 : List Int} (h0 : okUb (l0.take 66) = true) (h1 : okUb (l1.take 66) = true) : Ev (fun k => rampartlaw01_BitsRelations.f k l0 l1) true := by
  have e0 := take_len l0
  have e1 := take_len l1
  unfold rampartlaw01_BitsRelations.f
  generalize l0.take 66 = l at *
  generalize l1.take 66 = m at *
  simp only [Option.bind_some, turn_b h0, then_b h0 h1, check_b h0]
  refine Ev.bind (turn_ev (okU_of h0)) (Ev.bind (then_ev (okU_of h0) (okU_of h1)) (Ev.bind (check_ev (okU_of h0)) ?_))
  simp only [if_true]
  refine Ev.bind (same_ev (turnR_len e0)) ?_
  simp only [if_true]
  refine Ev.bind (same_ev (thenR_len e0)) ?_
  simp only [if_true]
  exact Ev.bind alive_ev (Ev.now _)
theorem closes_ev {l0 : List Int} (h0 : okUb (l0.take 66) = true) (a : Int) : Ev (fun k => rampartlaw01_BitsCloses.f k l0 a) true := by
  have e0 := take_len l0
  unfold rampartlaw01_BitsCloses.f
  generalize l0.take 66 = l at *
  simp only [Option.bind_some, closure_b h0, reach_b h0]
  refine Ev.bind (closure_ev (okU_of h0)) (Ev.bind (Reach_ev (okU_of h0) a) (Ev.bind (same_ev (closureR_len e0)) ?_))
  simp only [if_true]
  exact Ev.bind alive_ev (Ev.now _)
theorem own_l1 {l : List Int} (h : okUb l = true) (h66 : l.length ≤ 66) : ∀ (d i : Nat) (t : List Int), t.length < 1000000 → t.length - i = d → i ≤ t.length → Ev (fun k => rampartlaw01_BitsOwn.l1 k l l t (i : Int)) true
  | 0, i, t, ht, hd, hi => by
    refine Ev.step (f := fun k => (rampartref01_Same.f k l l).bind fun t349 => (if t349 = true then ((rampartref01_Check.f k l).bind fun t351 => (if (ofR l).2.2 = t351 then ((rampartlaw01_alive.f k).bind fun t352 => (some t352)) else (some false))) else (some false))) (fun k => ?_) (Ev.bind (same_ev (by omega)) ?_)
    · simp only [rampartlaw01_BitsOwn.l1]
      rw [if_neg (by omega), check_b h]
      rfl
    · simp only [if_true]
      refine Ev.bind (check_ev (okU_of h)) ?_
      simp only [if_true]
      exact Ev.bind alive_ev (Ev.now _)
  | d + 1, i, t, ht, hd, hi => by
    refine Ev.step (fun k => ?_) (own_l1 h h66 d (i + 1) (t.set i 0) (by simpa using ht) (by simp; omega) (by simp; omega))
    simp only [rampartlaw01_BitsOwn.l1]
    rw [if_pos (by omega), if_pos (by omega), w64_inc (by omega), Int.toNat_natCast]
theorem own_l0 {l t : List Int} (h : okUb l = true) (h66 : l.length ≤ 66) (ht : t.length < 1000000) : ∀ (d i : Nat) (c : List Int), c.length < 1000000 → c.length - i = d → i ≤ c.length → Ev (fun k => rampartlaw01_BitsOwn.l0 k l l c t (i : Int)) true
  | 0, i, c, hc, hd, hi => by
    refine Ev.step (fun k => ?_) (own_l1 h h66 t.length 0 t ht (by omega) (by omega))
    simp only [rampartlaw01_BitsOwn.l0]
    rw [if_neg (by omega)]
    rfl
  | d + 1, i, c, hc, hd, hi => by
    refine Ev.step (fun k => ?_) (own_l0 h h66 ht d (i + 1) (c.set i 0) (by simpa using hc) (by simp; omega) (by simp; omega))
    simp only [rampartlaw01_BitsOwn.l0]
    rw [if_pos (by omega), if_pos (by omega), w64_inc (by omega), Int.toNat_natCast]
theorem own_ev {l0 : List Int} (h0 : okUb (l0.take 66) = true) : Ev (fun k => rampartlaw01_BitsOwn.f k l0) true := by
  have e0 := take_len l0
  unfold rampartlaw01_BitsOwn.f
  generalize l0.take 66 = l at *
  have c : ([] : List Int).length + l.length < 17592186044416 := by simp; omega
  simp only [Option.bind_some, if_pos c, List.nil_append, closure_b h0, turn_b h0]
  exact own_l0 h0 e0 (turnR_len e0) (closureR l).1.length 0 (closureR l).1 (closureR_len e0) (by omega) (by omega)
/-! ### Rows of numbers as rows of sets -/
theorem rowsF_I {G : Nat → Nat} {n i : Nat} (hi : i < n) : rowsF (rowsI G n) i = G i := by
  unfold rowsF rowsI
  rw [List.getD_eq_getElem?_getD, List.getElem?_map, List.getElem?_range hi]
  simp
theorem rowsF_out {l : List Int} {i : Nat} (hi : l.length ≤ i) : rowsF l i = 0 := by
  unfold rowsF
  rw [List.getD_eq_getElem?_getD, List.getElem?_eq_none hi]
  rfl
theorem okUb_rows {G : Nat → Nat} {n : Nat} (h : ∀ i, i < n → G i < 2 ^ 64) : okUb (rowsI G n) = true := by
  unfold okUb rowsI
  rw [List.all_eq_true]
  intro x hx
  obtain ⟨i, hi, rfl⟩ := List.mem_map.1 hx
  have := h i (List.mem_range.1 hi)
  simp
  omega
theorem ofR_rows {G : Nat → Nat} {n : Nat} (hn : n ≤ 64) (h : ∀ i, i < n → G i < 2 ^ n) : (ofR (rowsI G n)).2.2 = 0 := by
  unfold ofR
  rw [rowsI_len, if_neg (by omega), if_pos (okRel_iff.2 fun i hi => by rw [rowsF_I hi]; exact h i hi)]
theorem pow64 {n s : Nat} (hn : n ≤ 64) (h : s < 2 ^ n) : s < 2 ^ 64 := Nat.lt_of_lt_of_le h (Nat.pow_le_pow_right (by decide) hn)
theorem turnK_n (R : Nat → Nat) (n j : Nat) : turnK R n j < 2 ^ n := ofP_lt _ n
theorem turnK_ext {R R' : Nat → Nat} {n : Nat} (h : ∀ i, i < n → R i = R' i) (j : Nat) : turnK R n j = turnK R' n j :=
  bits_eq n (turnK_n _ _ _) (turnK_n _ _ _) fun i hi => by unfold turnK; rw [testBit_ofP, testBit_ofP, h i hi]
theorem turnK_bit (R : Nat → Nat) (n i j : Nat) : (turnK R n j).testBit i = (decide (i < n) && (R i).testBit j) := by unfold turnK; rw [testBit_ofP]
theorem turn_twice {R : Nat → Nat} {n i : Nat} (hi : i < n) (h : R i < 2 ^ n) : turnK (turnK R n) n i = R i :=
  bits_eq n (turnK_n _ _ _) h fun j hj => by rw [turnK_bit, turnK_bit]; simp [hi, hj]
theorem orAll_ltn {R : Nat → Nat} {n : Nat} (l : List (Fin 64)) (h : ∀ x ∈ l, R x.val < 2 ^ n) : orAll R l < 2 ^ n := by
  refine Nat.lt_pow_two_of_testBit _ fun i hi => ?_
  cases hb : (orAll R l).testBit i
  · rfl
  · obtain ⟨x, hx, hx'⟩ := (testBit_orAll R l i).1 hb
    rw [Nat.testBit_lt_two_pow (Nat.lt_of_lt_of_le (h x hx) (Nat.pow_le_pow_right (by decide) hi))] at hx'
    cases hx'
theorem then_ltn {M O : Nat → Nat} {n i : Nat} (hn : n ≤ 64) (hi : i < n) (hM : M i < 2 ^ n) (hO : ∀ j, j < n → O j < 2 ^ n) : thenK M O n i < 2 ^ n := by
  unfold thenK
  rw [if_pos hi, pfx_full hM hn]
  exact orAll_ltn _ fun x hx => hO _ ((pfx_mem _ _).1 hx).1
theorem then_bit {M O : Nat → Nat} {n i k : Nat} (hn : n ≤ 64) (hi : i < n) (hM : M i < 2 ^ n) : (thenK M O n i).testBit k = true ↔ ∃ j, j < n ∧ (M i).testBit j = true ∧ (O j).testBit k = true := by
  unfold thenK
  rw [if_pos hi, pfx_full hM hn, testBit_orAll]
  constructor
  · rintro ⟨x, hx, h⟩
    have := (pfx_mem _ _).1 hx
    exact ⟨x.val, this.1, this.2, h⟩
  · rintro ⟨j, hj, h1, h2⟩
    exact ⟨⟨j, by omega⟩, (pfx_mem _ _).2 ⟨hj, h1⟩, h2⟩
theorem then_turned {M O : Nat → Nat} {n i : Nat} (hn : n ≤ 64) (hi : i < n) (hM : ∀ j, j < n → M j < 2 ^ n) (hO : ∀ j, j < n → O j < 2 ^ n) : turnK (thenK M O n) n i = thenK (turnK O n) (turnK M n) n i := by
  refine bits_eq n (turnK_n _ _ _) (then_ltn hn hi (turnK_n _ _ _) (fun j _ => turnK_n _ _ _)) fun k hk => ?_
  rw [Bool.eq_iff_iff, then_bit hn hi (turnK_n _ _ _), turnK_bit, Bool.and_eq_true, decide_eq_true_iff, then_bit hn hk (hM k hk)]
  constructor
  · rintro ⟨_, j, hj, h1, h2⟩
    exact ⟨j, hj, by rw [turnK_bit]; simp [hj, h2], by rw [turnK_bit]; simp [hk, h1]⟩
  · rintro ⟨j, hj, h1, h2⟩
    rw [turnK_bit, Bool.and_eq_true, decide_eq_true_iff] at h1 h2
    exact ⟨hk, j, hj, h2.2, h1.2⟩
theorem thenK_ext {M M' O O' : Nat → Nat} {n i : Nat} (hn : n ≤ 64) (hi : i < n) (hM : M i < 2 ^ n) (h : ∀ i, i < n → M i = M' i) (h' : ∀ i, i < n → O i = O' i) : thenK M O n i = thenK M' O' n i := by
  have hM' : M' i < 2 ^ n := by rw [← h i hi]; exact hM
  apply Nat.eq_of_testBit_eq
  intro k
  rw [Bool.eq_iff_iff, then_bit hn hi hM, then_bit hn hi hM']
  constructor
  · rintro ⟨j, hj, h1, h2⟩
    exact ⟨j, hj, by rw [← h i hi]; exact h1, by rw [← h' j hj]; exact h2⟩
  · rintro ⟨j, hj, h1, h2⟩
    exact ⟨j, hj, by rw [h i hi]; exact h1, by rw [h' j hj]; exact h2⟩
theorem turned_err {l m : List Int} (hl : okUb l = true) (hm : okUb m = true) (h : (ofR l).2.2 = 0 → (ofR m).2.2 = 0 → l.length ≠ m.length) (a b c : List Int) : Ev (fun k => rampartlaw01_BitsTurned.j0 k l m a b c true) true := by
  refine Ev.step (f := fun k => ((rampartref01_Check.f k l).bind fun t309 => (if t309 = 0 then ((rampartref01_Check.f k m).bind fun t310 => (if t310 = 0 then (if (l.length : Int) = (m.length : Int) then (some false) else ((rampartlaw01_alive.f k).bind fun t311 => (some t311))) else ((rampartlaw01_alive.f k).bind fun t312 => (some t312)))) else ((rampartlaw01_alive.f k).bind fun t313 => (some t313))))) (fun k => ?_) (Ev.bind (check_ev (okU_of hl)) ?_)
  · simp only [rampartlaw01_BitsTurned.j0]
    rw [if_pos trivial]
  · by_cases he : (ofR l).2.2 = 0
    · refine Ev.congr (fun k => if_pos he) (Ev.bind (check_ev (okU_of hm)) ?_)
      by_cases hf : (ofR m).2.2 = 0
      · have := h he hf
        exact Ev.congr (fun k => (if_pos hf).trans (if_neg (by omega))) (Ev.bind alive_ev (Ev.now _))
      · exact Ev.congr (fun k => if_neg hf) (Ev.bind alive_ev (Ev.now _))
    · exact Ev.congr (fun k => if_neg he) (Ev.bind alive_ev (Ev.now _))
theorem turned_ok {l m : List Int} (hl : okUb l = true) (hm : okUb m = true) (he : (ofR l).2.2 = 0) (hf : (ofR m).2.2 = 0) (hlen : l.length = m.length) :
    Ev (fun k => rampartlaw01_BitsTurned.j0 k l m (rowsI (turnK (rowsF l) l.length) l.length) (rowsI (turnK (rowsF m) m.length) m.length) (rowsI (thenK (rowsF l) (rowsF m) l.length) l.length) false) true := by
  obtain ⟨h64, hok⟩ := ofR_len he
  obtain ⟨_, hok'⟩ := ofR_len hf
  have hM := okRel_iff.1 hok
  have hO : ∀ j, j < l.length → rowsF m j < 2 ^ l.length := fun j hj => by have := okRel_iff.1 hok' j (by omega); rwa [← hlen] at this
  rw [← hlen]
  have hid := rowsI_F (okU_of hl)
  have hlt66 : l.length < 1000000 := by omega
  generalize hn : l.length = n at *
  have b1 : okUb (rowsI (turnK (rowsF l) n) n) = true := okUb_rows fun i _ => pow64 h64 (turnK_n _ _ _)
  have b2 : okUb (rowsI (turnK (rowsF m) n) n) = true := okUb_rows fun i _ => pow64 h64 (turnK_n _ _ _)
  have b3 : okUb (rowsI (thenK (rowsF l) (rowsF m) n) n) = true := okUb_rows fun i hi => pow64 h64 (then_ltn h64 hi (hM i hi) hO)
  have r1 : (ofR (rowsI (turnK (rowsF l) n) n)).2.2 = 0 := ofR_rows h64 fun i _ => turnK_n _ _ _
  have r2 : (ofR (rowsI (turnK (rowsF m) n) n)).2.2 = 0 := ofR_rows h64 fun i _ => turnK_n _ _ _
  have r3 : (ofR (rowsI (thenK (rowsF l) (rowsF m) n) n)).2.2 = 0 := ofR_rows h64 fun i hi => then_ltn h64 hi (hM i hi) hO
  have t1 : turnR (rowsI (turnK (rowsF l) n) n) = (l, 0) := by
    unfold turnR
    rw [if_pos r1, rowsI_len]
    rw [show rowsI (turnK (rowsF (rowsI (turnK (rowsF l) n) n)) n) n = l from by
      exact (rowsI_ext fun i hi => (turnK_ext (fun j hj => rowsF_I hj) i).trans (turn_twice hi (hM i hi))).trans hid]
  have t2 : turnR (rowsI (thenK (rowsF l) (rowsF m) n) n) = (rowsI (turnK (thenK (rowsF l) (rowsF m) n) n) n, 0) := by
    unfold turnR
    rw [if_pos r3, rowsI_len, rowsI_ext fun i hi => turnK_ext (fun j hj => rowsF_I hj) i]
  have t3 : thenR (rowsI (turnK (rowsF m) n) n) (rowsI (turnK (rowsF l) n) n) = (rowsI (turnK (thenK (rowsF l) (rowsF m) n) n) n, 0) := by
    unfold thenR
    rw [if_pos r2, if_pos r1, rowsI_len, rowsI_len, if_pos rfl]
    rw [rowsI_ext fun i hi => (thenK_ext h64 hi (by rw [rowsF_I hi]; exact turnK_n _ _ _) (fun j hj => rowsF_I hj) (fun j hj => rowsF_I hj)).trans (then_turned h64 hi hM hO).symm]
  refine Ev.step (f := fun k => ((rampartref01_Same.f k l l).bind fun t326 => (if t326 = true then ((rampartref01_Same.f k (rowsI (turnK (thenK (rowsF l) (rowsF m) n) n) n) (rowsI (turnK (thenK (rowsF l) (rowsF m) n) n) n)).bind fun t327 => (if t327 = true then ((rampartlaw01_alive.f k).bind fun t328 => (some t328)) else (some false))) else (some false)))) (fun k => ?_) (Ev.bind (same_ev (by omega)) ?_)
  · simp only [rampartlaw01_BitsTurned.j0]
    rw [if_neg (by simp), turn_b b1, turn_b b3, then_b b2 b1, t1, t2, t3]
    simp only [Option.bind_some, if_true]
  · simp only [if_true]
    refine Ev.bind (same_ev (by rw [rowsI_len]; omega)) ?_
    simp only [if_true]
    exact Ev.bind alive_ev (Ev.now _)
theorem turned_ev {l0 l1 : List Int} (h0 : okUb (l0.take 66) = true) (h1 : okUb (l1.take 66) = true) : Ev (fun k => rampartlaw01_BitsTurned.f k l0 l1) true := by
  unfold rampartlaw01_BitsTurned.f
  generalize l0.take 66 = l at *
  generalize l1.take 66 = m at *
  simp only [Option.bind_some, turn_b h0, turn_b h1, then_b h0 h1]
  by_cases he : (ofR l).2.2 = 0
  · by_cases hf : (ofR m).2.2 = 0
    · by_cases hlen : l.length = m.length
      · have h := turned_ok h0 h1 he hf hlen
        have a1 : turnR l = (rowsI (turnK (rowsF l) l.length) l.length, 0) := if_pos he
        have a2 : turnR m = (rowsI (turnK (rowsF m) m.length) m.length, 0) := if_pos hf
        have a3 : thenR l m = (rowsI (thenK (rowsF l) (rowsF m) l.length) l.length, 0) := by unfold thenR; rw [if_pos he, if_pos hf, if_pos hlen]
        rw [a1, a2, a3]
        exact h
      · have h := turned_err h0 h1 (fun _ _ => hlen)
        have a1 : turnR l = (rowsI (turnK (rowsF l) l.length) l.length, 0) := if_pos he
        have a2 : turnR m = (rowsI (turnK (rowsF m) m.length) m.length, 0) := if_pos hf
        have a3 : thenR l m = ([], 1) := by unfold thenR; rw [if_pos he, if_pos hf, if_neg hlen]
        rw [a1, a2, a3]
        exact h _ _ _
    · have h := turned_err h0 h1 (fun _ h' => absurd h' hf)
      have a2 : (turnR m).2 ≠ 0 := by unfold turnR; rw [if_neg hf]; exact hf
      refine Ev.congr (fun k => ?_) (h (turnR l).1 (turnR m).1 (thenR l m).1)
      split <;> first | rfl | rw [if_neg a2]
  · have h := turned_err h0 h1 (fun h' _ => absurd h' he)
    have a1 : (turnR l).2 ≠ 0 := by unfold turnR; rw [if_neg he]; exact he
    exact Ev.congr (fun k => if_neg a1) (h (turnR l).1 (turnR m).1 (thenR l m).1)
end Go.Proofs.Ytbbmibabjffcaaa.Q
