/- Layer 1, plain: what the reference's Then, Closure and Reach answer, and that rows are the same as themselves. -/
import Derived.Test.YtbbmibabjffcaaaP3
namespace Go.Proofs.Ytbbmibabjffcaaa.Q
open Go.RowKit Go.Proofs.YtbbmibabjffcaaaW.PrintWords Go.Proofs.YtbbmibabjffcaaaW.PrintMore Go.Proofs.YtbbmibabjffcaaaW.PrintLast Go.Proofs.Ytbbmibabjffcaaa.Bm
set_option linter.unusedVariables false
set_option linter.unusedSimpArgs false
theorem same_l0 {l : List Int} (h : l.length < 1000000) : ∀ (d i : Nat), l.length - i = d → i ≤ l.length → Ev (fun k => rampartref01_Same.l0 k l l (i : Int)) true
  | 0, i, hd, hi => by
    refine Ev.step (f := fun _ => some true) (fun k => ?_) (Ev.now _)
    simp only [rampartref01_Same.l0]
    rw [if_neg (by omega)]
  | d + 1, i, hd, hi => by
    refine Ev.step (fun k => ?_) (same_l0 h d (i + 1) (by omega) (by omega))
    simp only [rampartref01_Same.l0]
    have c1 : (i : Int) < (l.length : Int) := by omega
    rw [if_pos c1, if_pos (by omega), if_pos c1, w64_inc (by omega)]
    simp only [if_true]
theorem same_ev {l : List Int} (h : l.length < 1000000) : Ev (fun k => rampartref01_Same.f k l l) true := by
  unfold rampartref01_Same.f
  refine Ev.congr (f := fun k => rampartref01_Same.l0 k l l ((0 : Nat) : Int)) (fun k => ?_) (same_l0 h l.length 0 (by omega) (by omega))
  rw [if_pos rfl]
  rfl
theorem pfx_top {s n : Nat} (hs : s < 2 ^ n) : ∀ d, pfx s (n + d) = pfx s n
  | 0 => rfl
  | d + 1 => by
    rw [← Nat.add_assoc, pfx_no (Nat.testBit_lt_two_pow (Nat.lt_of_lt_of_le hs (Nat.pow_le_pow_right (by decide) (by omega))))]
    exact pfx_top hs d
theorem pfx_full {s n : Nat} (hs : s < 2 ^ n) (hn : n ≤ 64) : pfx s 64 = pfx s n := by
  have := pfx_top hs (64 - n)
  rwa [show n + (64 - n) = 64 by omega] at this
theorem ofP_self {s n : Nat} (hs : s < 2 ^ n) : ofP (fun x => s.testBit x) n = s := bits_eq n (ofP_lt _ _) hs fun i hi => by rw [testBit_ofP]; simp [hi]
theorem upd_upd (G : Nat → Nat) (i v w : Nat) : upd (upd G i v) i w = upd G i w := by
  funext r; unfold upd; split <;> rfl
theorem upd_at (G : Nat → Nat) (i v : Nat) : upd G i v i = v := by unfold upd; rw [if_pos rfl]
section
variable {l m : List Int} (hl : okU l) (hm : okU m) (hlen : l.length = m.length) (h64 : l.length ≤ 64)
include hl hm hlen h64
theorem then_l2_eq {G : Nat → Nat} {i j kk : Nat} (hi : i < l.length) (hj : j < l.length) (hk : kk < l.length) (k : Nat) :
    rampartref01_Then.l2 (k + 1) l m (rowsI G l.length) (i : Int) (j : Int) (kk : Int) = (rampartref01_Has.f k ((rowsF l i : Nat) : Int) (j : Int)).bind fun t => if t = true then (rampartref01_Has.f k ((rowsF m j : Nat) : Int) (kk : Int)).bind fun t' => if t' = true then (rampartref01_with.f k ((G i : Nat) : Int) (kk : Int)).bind fun t'' => rampartref01_Then.l2 k l m ((rowsI G l.length).set i t'') (i : Int) (j : Int) ((kk + 1 : Nat) : Int) else rampartref01_Then.l2 k l m (rowsI G l.length) (i : Int) (j : Int) ((kk + 1 : Nat) : Int) else rampartref01_Then.l2 k l m (rowsI G l.length) (i : Int) (j : Int) ((kk + 1 : Nat) : Int) := by
  have hln := rowsI_len G l.length
  have c0 : (kk : Int) < (l.length : Int) := by omega
  have c1 : (0 : Int) ≤ (i : Int) := by omega
  have c2 : (i : Int) < (l.length : Int) := by omega
  have c3 : (0 : Int) ≤ (j : Int) := by omega
  have c4 : (j : Int) < (m.length : Int) := by omega
  have c5 : (i : Int) < (((rowsI G l.length).length : Nat) : Int) := by omega
  simp only [rampartref01_Then.l2]
  simp only [if_pos c0, if_pos c1, if_pos c2, if_pos c3, if_pos c4, if_pos c5, rd_rows hl hi, rd_rows hm (show j < m.length by omega), w64_inc (show kk < 1000000 by omega), rd_rowsI (F := G) hi, Int.toNat_natCast]
omit hl hm in
theorem then_l2_end {T : List Int} {i j : Nat} (hj : j < l.length) (k : Nat) : rampartref01_Then.l2 (k + 1) l m T (i : Int) (j : Int) ((l.length : Nat) : Int) = rampartref01_Then.l1 k l m T (i : Int) ((j + 1 : Nat) : Int) := by
  simp only [rampartref01_Then.l2]
  rw [if_neg (by omega), w64_inc (by omega)]
theorem then_l2_no {G : Nat → Nat} {i j : Nat} (hi : i < l.length) (hj : j < l.length) (hb : (rowsF l i).testBit j = false) {r : List Int × Int}
    (h : Ev (fun k => rampartref01_Then.l1 k l m (rowsI G l.length) (i : Int) ((j + 1 : Nat) : Int)) r) : ∀ (d kk : Nat), l.length - kk = d → kk ≤ l.length → Ev (fun k => rampartref01_Then.l2 k l m (rowsI G l.length) (i : Int) (j : Int) (kk : Int)) r
  | 0, kk, hd, hk => by
    obtain rfl : kk = l.length := by omega
    exact Ev.step (fun k => then_l2_end hlen h64 hj k) h
  | d + 1, kk, hd, hk => by
    have ih := then_l2_no hi hj hb h d (kk + 1) (by omega) (by omega)
    refine Ev.step (fun k => then_l2_eq hl hm hlen h64 hi hj (by omega) k) (Ev.bind (has_nat (okU_at hl hi).2 (by omega)) ?_)
    rw [hb]
    exact Ev.congr (fun k => if_neg (by simp)) ih
theorem then_l2_yes {G : Nat → Nat} {i j X : Nat} (hi : i < l.length) (hj : j < l.length) (hb : (rowsF l i).testBit j = true) (hX : X < 2 ^ 64) {r : List Int × Int}
    (h : Ev (fun k => rampartref01_Then.l1 k l m (rowsI (upd G i (X ||| ofP (fun x => (rowsF m j).testBit x) l.length)) l.length) (i : Int) ((j + 1 : Nat) : Int)) r) : ∀ (d kk : Nat), l.length - kk = d → kk ≤ l.length → Ev (fun k => rampartref01_Then.l2 k l m (rowsI (upd G i (X ||| ofP (fun x => (rowsF m j).testBit x) kk)) l.length) (i : Int) (j : Int) (kk : Int)) r
  | 0, kk, hd, hk => by
    obtain rfl : kk = l.length := by omega
    exact Ev.step (fun k => then_l2_end hlen h64 hj k) h
  | d + 1, kk, hd, hk => by
    have ih := then_l2_yes hi hj hb hX h d (kk + 1) (by omega) (by omega)
    have hlt := ofP_lt (fun x => (rowsF m j).testBit x) kk
    have hX2 : X ||| ofP (fun x => (rowsF m j).testBit x) kk < 2 ^ 64 := Nat.or_lt_two_pow hX (Nat.lt_of_lt_of_le hlt (Nat.pow_le_pow_right (by decide) (by omega)))
    refine Ev.step (fun k => then_l2_eq hl hm hlen h64 hi hj (by omega) k) (Ev.bind (has_nat (okU_at hl hi).2 (by omega)) ?_)
    rw [hb]
    refine Ev.congr (fun k => if_pos rfl) (Ev.bind (has_nat (okU_at hm (by omega)).2 (by omega)) ?_)
    cases hc : (rowsF m j).testBit kk
    · refine Ev.congr (fun k => if_neg (by simp)) ?_
      have e : ofP (fun x => (rowsF m j).testBit x) (kk + 1) = ofP (fun x => (rowsF m j).testBit x) kk := by simp [ofP, hc]
      rw [e] at ih
      exact ih
    · have e : ofP (fun x => (rowsF m j).testBit x) (kk + 1) = ofP (fun x => (rowsF m j).testBit x) kk ||| 2 ^ kk := by
        simp only [ofP, hc, if_true]
        exact add_two_pow_or hlt
      rw [e, ← Nat.or_assoc] at ih
      refine Ev.congr (fun k => if_pos rfl) ?_
      rw [upd_at]
      refine Ev.bind (with_ev hX2 (by omega)) ?_
      simp only [set_rowsI, upd_upd]
      exact ih
theorem then_l1 (hO : ∀ j, j < l.length → rowsF m j < 2 ^ l.length) {G : Nat → Nat} {i : Nat} (hi : i < l.length) {r : List Int × Int}
    (h : Ev (fun k => rampartref01_Then.l0 k l m (rowsI (upd G i (orAll (rowsF m) (pfx (rowsF l i) l.length))) l.length) ((i + 1 : Nat) : Int)) r) : ∀ (d j : Nat), l.length - j = d → j ≤ l.length →
    Ev (fun k => rampartref01_Then.l1 k l m (rowsI (upd G i (orAll (rowsF m) (pfx (rowsF l i) j))) l.length) (i : Int) (j : Int)) r
  | 0, j, hd, hj => by
    obtain rfl : j = l.length := by omega
    refine Ev.step (fun k => ?_) h
    simp only [rampartref01_Then.l1]
    rw [if_neg (by omega), w64_inc (by omega)]
  | d + 1, j, hd, hj => by
    have ih := then_l1 hO hi h d (j + 1) (by omega) (by omega)
    have hlt : orAll (rowsF m) (pfx (rowsF l i) j) < 2 ^ 64 := orAll_lt (rowsF_lt hm) _
    refine Ev.step (f := fun k => rampartref01_Then.l2 k l m (rowsI (upd G i (orAll (rowsF m) (pfx (rowsF l i) j))) l.length) (i : Int) (j : Int) ((0 : Nat) : Int)) (fun k => ?_) ?_
    · simp only [rampartref01_Then.l1]
      rw [if_pos (by omega)]
      rfl
    · cases hb : (rowsF l i).testBit j
      · rw [pfx_no hb] at ih
        exact then_l2_no hl hm hlen h64 hi (by omega) hb ih l.length 0 (by omega) (by omega)
      · rw [pfx_yes (by omega) hb, orAll_snoc] at ih
        have e : ofP (fun x => (rowsF m j).testBit x) l.length = rowsF m j := ofP_self (hO j (by omega))
        have := then_l2_yes hl hm hlen h64 (G := G) hi (by omega) hb hlt (r := r) (by rw [e]; exact ih) l.length 0 (by omega) (by omega)
        simpa only [ofP, Nat.or_zero] using this
/-- The rows of one relation behind another, the first i rows done. -/
def thenT (M O : Nat → Nat) (i : Nat) : Nat → Nat := fun r => if r < i then orAll O (pfx (M r) 64) else 0
omit hl hm hlen h64 in
theorem thenT_start (M O : Nat → Nat) (i : Nat) : upd (thenT M O i) i (orAll O (pfx (M i) 0)) = thenT M O i := by
  funext r
  unfold upd thenT
  by_cases h : r = i
  · subst h; rw [if_pos rfl, if_neg (by omega)]; rfl
  · rw [if_neg h]
omit hl hm hlen h64 in
theorem thenT_step {M O : Nat → Nat} {n i : Nat} (hM : M i < 2 ^ n) (hn : n ≤ 64) : upd (thenT M O i) i (orAll O (pfx (M i) n)) = thenT M O (i + 1) := by
  rw [← pfx_full hM hn]
  funext r
  unfold upd thenT
  by_cases h : r = i
  · subst h; rw [if_pos rfl, if_pos (by omega)]
  · rw [if_neg h]
    by_cases h' : r < i
    · rw [if_pos h', if_pos (by omega)]
    · rw [if_neg h', if_neg (by omega)]
theorem then_l0 (hM : ∀ j, j < l.length → rowsF l j < 2 ^ l.length) (hO : ∀ j, j < l.length → rowsF m j < 2 ^ l.length) : ∀ (d i : Nat), l.length - i = d → i ≤ l.length →
    Ev (fun k => rampartref01_Then.l0 k l m (rowsI (thenT (rowsF l) (rowsF m) i) l.length) (i : Int)) (rowsI (thenK (rowsF l) (rowsF m) l.length) l.length, 0)
  | 0, i, hd, hi => by
    obtain rfl : i = l.length := by omega
    have e : rowsI (thenT (rowsF l) (rowsF m) l.length) l.length = rowsI (thenK (rowsF l) (rowsF m) l.length) l.length := rowsI_ext fun r hr => by unfold thenT thenK; rw [if_pos hr, if_pos hr]
    rw [← e]
    refine Ev.step (f := fun _ => some (rowsI (thenT (rowsF l) (rowsF m) l.length) l.length, 0)) (fun k => ?_) (Ev.now _)
    simp only [rampartref01_Then.l0]
    rw [if_neg (by omega)]
  | d + 1, i, hd, hi => by
    have ih := then_l0 hM hO d (i + 1) (by omega) (by omega)
    rw [← thenT_step (hM i (by omega)) h64] at ih
    have := then_l1 hl hm hlen h64 hO (by omega) ih l.length 0 (by omega) (by omega)
    rw [thenT_start] at this
    refine Ev.step (fun k => ?_) this
    simp only [rampartref01_Then.l0]
    rw [if_pos (by omega)]
    rfl
end
/-- One relation behind another, by the document. -/
def thenR (l m : List Int) : List Int × Int := if (ofR l).2.2 = 0 then (if (ofR m).2.2 = 0 then (if l.length = m.length then (rowsI (thenK (rowsF l) (rowsF m) l.length) l.length, 0) else ([], 1)) else ([], (ofR m).2.2)) else ([], (ofR l).2.2)
theorem then_j0_err {l m : List Int} {e : Int} (he : e ≠ 0) : Ev (fun k => rampartref01_Then.j0 k l m e) (([], e) : List Int × Int) := by
  refine Ev.step (f := fun _ => some (([], e) : List Int × Int)) (fun k => ?_) (Ev.now _)
  simp only [rampartref01_Then.j0]
  rw [if_neg he]
theorem then_ev {l m : List Int} (hl : okU l) (hm : okU m) : Ev (fun k => rampartref01_Then.f k l m) (thenR l m) := by
  unfold rampartref01_Then.f thenR
  refine Ev.bind (check_ev hl) ?_
  by_cases he : (ofR l).2.2 = 0
  · rw [if_pos he]
    refine Ev.congr (fun k => if_pos he) (Ev.bind (check_ev hm) ?_)
    by_cases hf : (ofR m).2.2 = 0
    · rw [if_pos hf, hf]
      by_cases hlen : l.length = m.length
      · rw [if_pos hlen]
        obtain ⟨h64, hok⟩ := ofR_len he
        obtain ⟨_, hok'⟩ := ofR_len hf
        have h := then_l0 hl hm hlen h64 (fun j hj => okRel_iff.1 hok j hj) (fun j hj => by have := okRel_iff.1 hok' j (by omega); rwa [← hlen] at this) l.length 0 (by omega) (by omega)
        have e0 : thenT (rowsF l) (rowsF m) 0 = fun _ => 0 := by funext r; simp [thenT]
        rw [e0, ← rep_rowsI] at h
        refine Ev.step (fun k => ?_) h
        simp only [rampartref01_Then.j0]
        rw [if_pos trivial, if_pos (by omega), if_pos (by omega), if_pos (by simp; omega), Int.toNat_natCast]
        rfl
      · rw [if_neg hlen]
        refine Ev.step (f := fun _ => some (([], 1) : List Int × Int)) (fun k => ?_) (Ev.now _)
        simp only [rampartref01_Then.j0]
        rw [if_pos trivial, if_neg (by omega)]
    · rw [if_neg hf]
      exact then_j0_err hf
  · rw [if_neg he]
    exact Ev.congr (fun k => if_neg he) (then_j0_err he)
theorem testBit_orAll (O : Nat → Nat) (l : List (Fin 64)) (k : Nat) : (orAll O l).testBit k = true ↔ ∃ x ∈ l, (O x.val).testBit k = true := by
  have : ∀ (l : List (Fin 64)) (a : Nat), (l.foldl (fun a x => a ||| O x.val) a).testBit k = true ↔ a.testBit k = true ∨ ∃ x ∈ l, (O x.val).testBit k = true := by
    intro l
    induction l with
    | nil => intro a; simp
    | cons x t ih =>
      intro a
      rw [List.foldl_cons, ih, Nat.testBit_or, Bool.or_eq_true]
      constructor
      · rintro ((h | h) | ⟨y, hy, h⟩)
        · exact .inl h
        · exact .inr ⟨x, by simp, h⟩
        · exact .inr ⟨y, by simp [hy], h⟩
      · rintro (h | ⟨y, hy, h⟩)
        · exact .inl (.inl h)
        · rcases List.mem_cons.1 hy with rfl | hy
          · exact .inl (.inr h)
          · exact .inr ⟨y, hy, h⟩
  have := this l 0
  simpa [orAll] using this
section
variable {l : List Int} (hl : okU l) (h64 : l.length ≤ 64)
include hl h64
omit hl h64 in
theorem reach_l2 {s more i : Nat} (hi : i < 64) (hmo : more < 2 ^ 64) (L : List (Fin 64)) (hL : L.length ≤ 64) {r : Int} (h : Ev (fun k => rampartref01_reach.l1 k l (s : Int) ((more ||| setOf L : Nat) : Int) ((i + 1 : Nat) : Int)) r) (t : List (Fin 64)) :
    ∀ q, L = q ++ t → Ev (fun k => rampartref01_reach.l2 k l (s : Int) ((more ||| setOf q : Nat) : Int) (i : Int) (vals L) ((q.length : Nat) : Int)) r := by
  have hv := vals_len L
  induction t with
  | nil =>
    intro q hq
    rw [List.append_nil] at hq
    subst hq
    refine Ev.step (fun k => ?_) h
    simp only [rampartref01_reach.l2]
    rw [if_neg (by omega), w64_inc (by omega)]
  | cons x t ih =>
    intro q hq
    have ih' := ih (q ++ [x]) (by rw [hq, List.append_assoc]; rfl)
    have hx := x.2
    have hlen : L.length = q.length + (t.length + 1) := by rw [hq]; simp
    have hr : rd (vals L) ((q.length : Nat) : Int) = ((x.val : Nat) : Int) := by
      rw [rd_vals (by omega)]
      simp [hq]
    have hm2 : more ||| setOf q < 2 ^ 64 := Nat.or_lt_two_pow hmo (setOf_lt q)
    rw [setOf_snoc, ← Nat.or_assoc, List.length_append, List.length_singleton] at ih'
    refine Ev.step (f := fun k => (rampartref01_with.f k ((more ||| setOf q : Nat) : Int) ((x.val : Nat) : Int)).bind fun t => rampartref01_reach.l2 k l (s : Int) t (i : Int) (vals L) ((q.length + 1 : Nat) : Int)) (fun k => ?_) (Ev.bind (with_ev hm2 hx) ih')
    simp only [rampartref01_reach.l2]
    rw [if_pos (by omega), if_pos (by omega), hr, w64_inc (by omega)]
/-- The members of s, and what the rows of those below i have. -/
def reachP (R : Nat → Nat) (s i : Nat) : Nat := s ||| orAll R (pfx s i)
omit h64 in
theorem reachP_lt {s : Nat} (hs : s < 2 ^ 64) (i : Nat) : reachP (rowsF l) s i < 2 ^ 64 := Nat.or_lt_two_pow hs (orAll_lt (rowsF_lt hl) _)
theorem reach_l1 {s : Nat} (hs : s < 2 ^ 64) {r : Int} (h : reachP (rowsF l) s l.length = s → r = (s : Int)) (h' : reachP (rowsF l) s l.length ≠ s → Ev (fun k => rampartref01_reach.l0 k l ((reachP (rowsF l) s l.length : Nat) : Int)) r) :
    ∀ (d i : Nat), l.length - i = d → i ≤ l.length → Ev (fun k => rampartref01_reach.l1 k l (s : Int) ((reachP (rowsF l) s i : Nat) : Int) (i : Int)) r
  | 0, i, hd, hi => by
    obtain rfl : i = l.length := by omega
    by_cases e : reachP (rowsF l) s l.length = s
    · rw [h e]
      refine Ev.step (f := fun _ => some (s : Int)) (fun k => ?_) (Ev.now _)
      simp only [rampartref01_reach.l1]
      rw [if_neg (by omega), if_pos (by rw [e])]
    · refine Ev.step (fun k => ?_) (h' e)
      simp only [rampartref01_reach.l1]
      rw [if_neg (by omega), if_neg (by omega)]
  | d + 1, i, hd, hi => by
    have ih := reach_l1 hs h h' d (i + 1) (by omega) (by omega)
    refine Ev.step (f := fun k => (rampartref01_Has.f k (s : Int) (i : Int)).bind fun t => if t = true then (rampartref01_List.f k ((rowsF l i : Nat) : Int)).bind fun t' => rampartref01_reach.l2 k l (s : Int) ((reachP (rowsF l) s i : Nat) : Int) (i : Int) t' 0 else rampartref01_reach.l1 k l (s : Int) ((reachP (rowsF l) s i : Nat) : Int) ((i + 1 : Nat) : Int)) (fun k => ?_) (Ev.bind (has_nat hs (by omega)) ?_)
    · have c1 : (0 : Int) ≤ (i : Int) := by omega
      simp only [rampartref01_reach.l1]
      rw [if_pos (by omega), rd_rows hl (by omega), w64_inc (by omega)]
      simp only [if_pos c1]
    · cases hb : s.testBit i
      · refine Ev.congr (fun k => if_neg (by simp)) ?_
        have e : reachP (rowsF l) s (i + 1) = reachP (rowsF l) s i := by unfold reachP; rw [pfx_no hb]
        rw [e] at ih
        exact ih
      · refine Ev.congr (fun k => if_pos rfl) (Ev.bind (list_ev (okU_at hl (by omega)).2) ?_)
        have e : reachP (rowsF l) s (i + 1) = reachP (rowsF l) s i ||| setOf (pfx (rowsF l i) 64) := by
          unfold reachP
          rw [pfx_yes (by omega) hb, orAll_snoc, setOf_all (okU_at hl (by omega)).2, Nat.or_assoc]
        rw [e] at ih
        have hp := pfx_length (rowsF l i) 64
        generalize hL : pfx (rowsF l i) 64 = L at *
        have := reach_l2 (i := i) (by omega) (reachP_lt hl hs i) L hp ih L [] (List.nil_append _).symm
        rw [List.length_nil] at this
        simp only [setOf, List.foldl_nil, Nat.or_zero] at this
        exact this
theorem reach_all : ∀ (fuel s : Nat), 2 ^ 64 - s ≤ fuel → s < 2 ^ 64 → ∃ C : Nat, Ev (fun k => rampartref01_reach.l0 k l (s : Int)) (C : Int) ∧ Closed (rowsF l) l.length C ∧ (∀ k, s.testBit k = true → C.testBit k = true) ∧ ∀ D, Closed (rowsF l) l.length D → (∀ k, s.testBit k = true → D.testBit k = true) → ∀ k, C.testBit k = true → D.testBit k = true
  | 0, s, hf, hs => absurd hf (by omega)
  | fuel + 1, s, hf, hs => by
    have hge : s ≤ reachP (rowsF l) s l.length := Nat.left_le_or
    have hlt := reachP_lt hl hs l.length
    have start : ∀ {r : Int}, (reachP (rowsF l) s l.length = s → r = (s : Int)) → (reachP (rowsF l) s l.length ≠ s → Ev (fun k => rampartref01_reach.l0 k l ((reachP (rowsF l) s l.length : Nat) : Int)) r) → Ev (fun k => rampartref01_reach.l0 k l (s : Int)) r := by
      intro r h h'
      have := reach_l1 hl h64 hs h h' l.length 0 (by omega) (by omega)
      have e0 : reachP (rowsF l) s 0 = s := by simp [reachP, pfx, orAll]
      rw [e0] at this
      refine Ev.step (fun k => ?_) this
      simp only [rampartref01_reach.l0]
      rfl
    have hin : ∀ i, i < l.length → s.testBit i = true → ∀ k, (rowsF l i).testBit k = true → (reachP (rowsF l) s l.length).testBit k = true := by
      intro i hi hb k hk
      unfold reachP
      rw [Nat.testBit_or, Bool.or_eq_true]
      exact .inr ((testBit_orAll _ _ _).2 ⟨⟨i, by omega⟩, (pfx_mem _ _).2 ⟨hi, hb⟩, hk⟩)
    have hsub : ∀ k, s.testBit k = true → (reachP (rowsF l) s l.length).testBit k = true := fun k hk => by
      unfold reachP
      rw [Nat.testBit_or, hk]; rfl
    by_cases e : reachP (rowsF l) s l.length = s
    · refine ⟨s, start (fun _ => rfl) (fun h => absurd e h), ?_, fun k h => h, fun D _ h => h⟩
      intro i hi hb k hk
      have := hin i hi hb k hk
      rwa [e] at this
    · obtain ⟨C, h1, h2, h3, h4⟩ := reach_all fuel (reachP (rowsF l) s l.length) (by omega) hlt
      refine ⟨C, start (fun h => absurd h e) (fun _ => h1), h2, fun k hk => h3 k (hsub k hk), fun D hD hsD => h4 D hD ?_⟩
      intro k hk
      unfold reachP at hk
      rw [Nat.testBit_or, Bool.or_eq_true] at hk
      rcases hk with hk | hk
      · exact hsD k hk
      · obtain ⟨x, hx, hk⟩ := (testBit_orAll _ _ _).1 hk
        have := (pfx_mem _ _).1 hx
        exact hD x.val this.1 (hsD _ this.2) k hk
theorem reach_ev {i : Nat} (hi : i < l.length) : Ev (fun k => rampartref01_reach.f k l ((2 ^ i : Nat) : Int)) ((wouter (rowsF l) l.length l.length i : Nat) : Int) := by
  obtain ⟨C, h1, h2, h3, h4⟩ := reach_all hl h64 (2 ^ 64) (2 ^ i) (Nat.sub_le _ _) (Nat.pow_lt_pow_right (by decide) (by omega))
  have hself : (2 ^ i).testBit i = true := by rw [Nat.testBit_two_pow]; simp
  have e : C = wouter (rowsF l) l.length l.length i := T_unique hi h2 (h3 i hself) fun D hD hDi => h4 D hD fun k hk => by
    rw [Nat.testBit_two_pow] at hk
    obtain rfl := of_decide_eq_true hk
    exact hDi
  rw [← e]
  exact h1
omit hl h64 in
theorem with_zero {i : Nat} (hi : i < 64) : Ev (fun k => rampartref01_with.f k 0 (i : Int)) ((2 ^ i : Nat) : Int) := by
  have := with_ev (s := 0) (by decide) hi
  rw [Nat.zero_or] at this
  exact this
def clT (R : Nat → Nat) (n i : Nat) : Nat → Nat := fun r => if r < i then wouter R n n r else 0
omit hl h64 in
theorem clT_step (R : Nat → Nat) (n i : Nat) : upd (clT R n i) i (wouter R n n i) = clT R n (i + 1) := by
  funext r
  unfold upd clT
  by_cases h : r = i
  · subst h; rw [if_pos rfl, if_pos (by omega)]
  · rw [if_neg h]
    by_cases h' : r < i
    · rw [if_pos h', if_pos (by omega)]
    · rw [if_neg h', if_neg (by omega)]
theorem closure_l0 : ∀ (d i : Nat), l.length - i = d → i ≤ l.length → Ev (fun k => rampartref01_Closure.l0 k l (rowsI (clT (rowsF l) l.length i) l.length) (i : Int)) (rowsI (wouter (rowsF l) l.length l.length) l.length, 0)
  | 0, i, hd, hi => by
    obtain rfl : i = l.length := by omega
    have e : rowsI (clT (rowsF l) l.length l.length) l.length = rowsI (wouter (rowsF l) l.length l.length) l.length := rowsI_ext fun r hr => by unfold clT; rw [if_pos hr]
    rw [← e]
    refine Ev.step (f := fun _ => some (rowsI (clT (rowsF l) l.length l.length) l.length, 0)) (fun k => ?_) (Ev.now _)
    simp only [rampartref01_Closure.l0]
    rw [if_neg (by omega)]
  | d + 1, i, hd, hi => by
    have ih := closure_l0 d (i + 1) (by omega) (by omega)
    rw [← clT_step, ← set_rowsI] at ih
    refine Ev.step (f := fun k => (rampartref01_with.f k 0 (i : Int)).bind fun t => (rampartref01_reach.f k l t).bind fun t' => rampartref01_Closure.l0 k l ((rowsI (clT (rowsF l) l.length i) l.length).set i t') ((i + 1 : Nat) : Int)) (fun k => ?_) (Ev.bind (with_zero (by omega)) (Ev.bind (reach_ev hl h64 (by omega)) ih))
    have hln := rowsI_len (clT (rowsF l) l.length i) l.length
    have c1 : (0 : Int) ≤ (i : Int) := by omega
    have c2 : (i : Int) < (((rowsI (clT (rowsF l) l.length i) l.length).length : Nat) : Int) := by omega
    simp only [rampartref01_Closure.l0]
    rw [if_pos (by omega), w64_inc (by omega), Int.toNat_natCast]
    simp only [if_pos c1, if_pos c2]
end
/-- The closure, by the document. -/
def closureR (l : List Int) : List Int × Int := if (ofR l).2.2 = 0 then (rowsI (wouter (rowsF l) l.length l.length) l.length, 0) else ([], (ofR l).2.2)
theorem closure_ev {l : List Int} (hl : okU l) : Ev (fun k => rampartref01_Closure.f k l) (closureR l) := by
  unfold rampartref01_Closure.f closureR
  refine Ev.bind (check_ev hl) ?_
  by_cases he : (ofR l).2.2 = 0
  · have h64 := (ofR_len he).1
    have h := closure_l0 hl h64 l.length 0 (by omega) (by omega)
    have e0 : clT (rowsF l) l.length 0 = fun _ => 0 := by funext r; simp [clT]
    rw [e0, ← rep_rowsI] at h
    rw [if_pos he]
    refine Ev.congr (fun k => ?_) h
    rw [if_pos he, if_pos (by omega), if_pos (by simp; omega), Int.toNat_natCast]
    rfl
  · rw [if_neg he]
    refine Ev.congr (f := fun _ => some (([], (ofR l).2.2) : List Int × Int)) (fun k => ?_) (Ev.now _)
    rw [if_neg he]
/-- What a member comes to, by the document. -/
def reachR (l : List Int) (i : Int) : Int × Int := if (ofR l).2.2 = 0 then (if 0 ≤ i ∧ i < l.length then (((wouter (rowsF l) l.length l.length i.toNat : Nat) : Int), 0) else (0, 5)) else (0, (ofR l).2.2)
theorem Reach_ev {l : List Int} (hl : okU l) (a : Int) : Ev (fun k => rampartref01_Reach.f k l a) (reachR l a) := by
  unfold rampartref01_Reach.f reachR
  refine Ev.bind (check_ev hl) ?_
  by_cases he : (ofR l).2.2 = 0
  · have h64 := (ofR_len he).1
    rw [if_pos he]
    refine Ev.congr (fun k => if_pos he) ?_
    by_cases h0 : a < 0
    · rw [if_neg (by omega)]
      refine Ev.congr (fun k => if_pos h0) (Ev.step (f := fun _ => some (((0, 5) : Int × Int))) (fun k => ?_) (Ev.now _))
      simp only [rampartref01_Reach.j0]
      rw [if_pos trivial]
    · refine Ev.congr (fun k => if_neg h0) ?_
      by_cases h1 : a ≥ (l.length : Int)
      · rw [if_neg (by omega), decide_eq_true h1]
        refine Ev.step (f := fun _ => some (((0, 5) : Int × Int))) (fun k => ?_) (Ev.now _)
        simp only [rampartref01_Reach.j0]
        rw [if_pos trivial]
      · obtain ⟨n, rfl⟩ := Int.eq_ofNat_of_zero_le (by omega : 0 ≤ a)
        rw [if_pos (by omega), decide_eq_false h1, Int.toNat_natCast]
        refine Ev.step (f := fun k => (rampartref01_with.f k 0 (n : Int)).bind fun t => (rampartref01_reach.f k l t).bind fun t' => some (t', 0)) (fun k => ?_) (Ev.bind (with_zero (by omega)) (Ev.bind (reach_ev hl h64 (by omega)) (Ev.now _)))
        simp only [rampartref01_Reach.j0]
        rw [if_neg (by simp)]
  · rw [if_neg he]
    refine Ev.congr (f := fun _ => some ((0, (ofR l).2.2) : Int × Int)) (fun k => ?_) (Ev.now _)
    rw [if_neg he]
end Go.Proofs.Ytbbmibabjffcaaa.Q
