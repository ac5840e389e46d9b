/- Layer 2, plain: in a lattice joins may be taken in any order; absorption. -/
import Derived.Test.YtlbjcmiegbejdaaQx15
import Derived.Test.YtlbjcmiegbejdaaP4
namespace Go.Proofs.Ytlbjcmiegbejdaa.Q
open Go.RowKit Go.Proofs.YtlbjcmiegbejdaaW.PrintWords Go.Proofs.YtlbjcmiegbejdaaW.PrintMore Go.Proofs.YtlbjcmiegbejdaaW.PrintLast Go.Proofs.Ytlbjcmiegbejdaa.Bm
set_option linter.unusedVariables false
set_option linter.unusedSimpArgs false
theorem nth_ev {s : Nat} (hs : s < 2 ^ 64) (a : Int) : Ev (fun k => rampartref01_Nth.f k (s : Int) a) (nthR (pfx s 64) a) := by
  unfold rampartref01_Nth.f
  refine Ev.bind (list_ev hs) ?_
  have hv := vals_len (pfx s 64)
  by_cases h0 : a < 0
  · rw [if_pos h0, nthR_miss (.inl h0)]
    exact Ev.now _
  · rw [if_neg h0]
    by_cases h1 : a ≥ ((vals (pfx s 64)).length : Int)
    · rw [if_pos h1, nthR_miss (.inr (by omega))]
      exact Ev.now _
    · obtain ⟨i, rfl⟩ := Int.eq_ofNat_of_zero_le (by omega : 0 ≤ a)
      rw [if_neg h1, if_pos (by omega), if_pos (by omega), rd_vals (by omega)]
      have e : nthR (pfx s 64) (i : Int) = (((((pfx s 64)[i]'(by omega)).val : Nat) : Int), true) := by
        unfold nthR
        rw [if_pos (by omega), Int.toNat_natCast, List.getElem?_eq_getElem (by omega)]
      rw [e]
      exact Ev.now _
theorem latF_good {l : List Int} (h : latF l = none) (x y : Fin l.length) : badB l x y = false := by
  unfold latF at h
  rw [List.findSome?_eq_none_iff] at h
  have h1 := h x (all_labs x)
  rw [Option.map_eq_none_iff, List.find?_eq_none] at h1
  have h2 := h1 y (all_labs y)
  simpa using h2
theorem first_bit {s : Nat} (hs : s < 2 ^ 64) (h0 : s ≠ 0) : ∃ x : Nat, s.testBit x = true ∧ nthR (pfx s 64) 0 = ((x : Int), true) := by
  cases hp : pfx s 64 with
  | nil => exact absurd (pfx_nil hs hp) h0
  | cons x t =>
    refine ⟨x.val, ((pfx_mem (s := s) 64 x).1 (by rw [hp]; simp)).2, rfl⟩
theorem joins_zero {l : List Int} (hc : chk l = 0) {a b : Nat} (ha : a < l.length) (hb : b < l.length) : askE l (a : Int) (b : Int) 0 = 0 := by
  unfold askE
  rw [if_pos rfl, if_neg (by omega)]
/-- A join that is told. -/
theorem join_ev {l : List Int} (h : okUb l = true) (hc : chk l = 0) (hg : latF l = none) {a b : Nat} (ha : a < l.length) (hb : b < l.length) :
    ∃ x : Nat, IsJoin (rowsF l) l.length a b x ∧ Ev (fun k => rampartlaw02_join.f k l (a : Int) (b : Int)) (x : Int) := by
  have h16 := (shp_zero (chk_zero hc).1).1
  have hj64 : jnS l a b < 2 ^ 64 := pow64 (by omega) (jnS_lt l a b)
  have hb0 := latF_good hg ⟨a, ha⟩ ⟨b, hb⟩
  unfold badB at hb0
  rw [Bool.or_eq_false_iff, decide_eq_false_iff_not, decide_eq_false_iff_not] at hb0
  have hne : jnS l a b ≠ 0 := fun e => hb0.1 (by rw [jnF_nat, e]; rfl)
  obtain ⟨x, hx, hn⟩ := first_bit hj64 hne
  refine ⟨x, jnS_bit.1 hx, ?_⟩
  unfold rampartlaw02_join.f
  rw [Joins_b h, hc, joins_zero hc ha hb]
  simp only [Option.bind_some]
  refine Ev.congr (fun k => if_pos trivial) (Ev.congr (fun k => if_neg (by omega)) (Ev.congr (fun k => if_neg (by omega)) ?_))
  have h1 := nth_ev hj64 0
  rw [hn] at h1
  exact Ev.bind h1 (Ev.congr (fun k => if_pos rfl) (Ev.now _))
theorem meet_ev {l : List Int} (h : okUb l = true) (hc : chk l = 0) (hg : latF l = none) {a b : Nat} (ha : a < l.length) (hb : b < l.length) :
    ∃ x : Nat, IsJoin (rowsF (turnL l)) l.length a b x ∧ Ev (fun k => rampartlaw02_meet.f k l (a : Int) (b : Int)) (x : Int) := by
  have h16 := (shp_zero (chk_zero hc).1).1
  have htl := turnL_len l
  have hj64 : jnS (turnL l) a b < 2 ^ 64 := pow64 (by omega) (jnS_lt (turnL l) a b)
  have hb0 := latF_good hg ⟨a, ha⟩ ⟨b, hb⟩
  unfold badB at hb0
  rw [Bool.or_eq_false_iff, decide_eq_false_iff_not, decide_eq_false_iff_not] at hb0
  have hne : jnS (turnL l) a b ≠ 0 := fun e => hb0.2 (by rw [jnF_nat, e]; rfl)
  obtain ⟨x, hx, hn⟩ := first_bit hj64 hne
  refine ⟨x, by have := jnS_bit.1 hx; rwa [htl] at this, ?_⟩
  unfold rampartlaw02_meet.f
  rw [Meets_b h, hc, joins_zero hc ha hb]
  simp only [Option.bind_some]
  refine Ev.congr (fun k => if_pos trivial) (Ev.congr (fun k => if_neg (by omega)) (Ev.congr (fun k => if_neg (by omega)) ?_))
  have h1 := nth_ev hj64 0
  rw [hn] at h1
  exact Ev.bind h1 (Ev.congr (fun k => if_pos rfl) (Ev.now _))
theorem equal_ev {l : List Int} (h : okUb l = true) (h64 : l.length ≤ 64) {x y : Nat} (hx : x < l.length) (hy : y < l.length) (h1 : (rowsF l x).testBit y = true) (h2 : (rowsF l y).testBit x = true) : Ev (fun k => rampartref02_Equal.f k l (x : Int) (y : Int)) true := by
  unfold rampartref02_Equal.f
  have hl := okU_of h
  have e1 := has_nat (okU_at hl hx).2 (i := y) (by omega)
  have e2 := has_nat (okU_at hl hy).2 (i := x) (by omega)
  rw [h1] at e1
  rw [h2] at e2
  rw [rd_rows hl hx, rd_rows hl hy]
  refine Ev.congr (fun k => if_pos (by omega)) (Ev.congr (fun k => if_pos (by omega)) (Ev.bind e1 (Ev.congr (fun k => if_pos rfl) (Ev.congr (fun k => if_pos (by omega)) (Ev.congr (fun k => if_pos (by omega)) (Ev.bind e2 (Ev.now _)))))))
theorem turn_le {l : List Int} {x d : Nat} (hx : x < l.length) : (rowsF (turnL l) x).testBit d = true ↔ d < l.length ∧ (rowsF l d).testBit x = true := by
  rw [turnL_bit hx, Bool.and_eq_true, decide_eq_true_iff]
theorem lattice_b {l : List Int} (h : okUb l = true) : lattice_Lattice.f l = some (if chk l = 0 then latT l else (0, 0, false, chk l)) := by
  unfold lattice_Lattice.f
  rw [chk_b h, Option.bind_some]
  split <;> rfl
theorem algebra_ev {l0 : List Int} (h : okUb (l0.take 17) = true) (a b c : Int) : Ev (fun k => rampartlaw02_LatticeAlgebra.f k l0 a b c) true := by
  unfold rampartlaw02_LatticeAlgebra.f
  refine Ev.bind awake_ev (Ev.congr (fun k => if_pos rfl) ?_)
  simp only [Option.bind_some, lattice_b h]
  generalize l0.take 17 = l at h ⊢
  by_cases hc : chk l = 0
  · simp only [if_pos hc]
    cases hg : latF l with
    | some p =>
      obtain ⟨p, q⟩ := p
      have e : latT l = ((p : Int), (q : Int), false, 0) := by unfold latT; rw [hg]
      rw [e]
      refine Ev.congr (fun k => if_pos rfl) (Ev.congr (fun k => if_neg (by simp)) (Ev.now _))
    | none =>
      have e : latT l = (0, 0, true, 0) := by unfold latT; rw [hg]
      rw [e]
      refine Ev.congr (fun k => if_pos rfl) (Ev.congr (fun k => if_pos rfl) ?_)
      by_cases ha0 : a < 0
      · exact Ev.congr (fun k => if_pos ha0) (Ev.now _)
      refine Ev.congr (fun k => if_neg ha0) ?_
      by_cases hb0 : b < 0
      · exact Ev.congr (fun k => if_pos hb0) (Ev.now _)
      refine Ev.congr (fun k => if_neg hb0) ?_
      by_cases hc0 : c < 0
      · exact Ev.congr (fun k => if_pos hc0) (Ev.now _)
      refine Ev.congr (fun k => if_neg hc0) ?_
      by_cases ha1 : a ≥ (l.length : Int)
      · exact Ev.congr (fun k => if_pos ha1) (Ev.now _)
      refine Ev.congr (fun k => if_neg ha1) ?_
      by_cases hb1 : b ≥ (l.length : Int)
      · exact Ev.congr (fun k => if_pos hb1) (Ev.now _)
      refine Ev.congr (fun k => if_neg hb1) ?_
      by_cases hc1 : c ≥ (l.length : Int)
      · exact Ev.congr (fun k => if_pos hc1) (Ev.now _)
      refine Ev.congr (fun k => if_neg hc1) ?_
      obtain ⟨a, rfl⟩ := Int.eq_ofNat_of_zero_le (by omega : 0 ≤ a)
      obtain ⟨b, rfl⟩ := Int.eq_ofNat_of_zero_le (by omega : 0 ≤ b)
      obtain ⟨c, rfl⟩ := Int.eq_ofNat_of_zero_le (by omega : 0 ≤ c)
      have ha : a < l.length := by omega
      have hb : b < l.length := by omega
      have hcn : c < l.length := by omega
      obtain ⟨hs, hP⟩ := chk_zero hc
      have h16 := (shp_zero hs).1
      obtain ⟨p, jp, ep⟩ := join_ev h hc hg ha hb
      obtain ⟨X, jX, eX⟩ := join_ev h hc hg jp.1 hcn
      obtain ⟨q, jq, eq⟩ := join_ev h hc hg hb hcn
      obtain ⟨Y, jY, eY⟩ := join_ev h hc hg ha jq.1
      obtain ⟨m, jm, em⟩ := meet_ev h hc hg ha hb
      obtain ⟨Z, jZ, eZ⟩ := join_ev h hc hg ha jm.1
      obtain ⟨W, jW, eW⟩ := meet_ev h hc hg ha jp.1
      refine Ev.bind ep (Ev.bind eX (Ev.bind eq (Ev.bind eY (Ev.bind em (Ev.bind eZ (Ev.bind ep (Ev.bind eW ?_)))))))
      have hX := jX.1
      have hY := jY.1
      have hZ := jZ.1
      have hW := jW.1
      have tr : ∀ {x y z : Nat}, x < l.length → y < l.length → (rowsF l x).testBit y = true → (rowsF l y).testBit z = true → (rowsF l x).testBit z = true := fun hx hy h1 h2 => (hP _ hx).2 _ hy h1 _ h2
      -- the same joins, whichever way
      have aY := jY.2.1
      have bY : (rowsF l b).testBit Y = true := tr hb jq.1 jq.2.1 jY.2.2.1
      have cY : (rowsF l c).testBit Y = true := tr hcn jq.1 jq.2.2.1 jY.2.2.1
      have pY := jp.2.2.2 Y aY bY
      have XY := jX.2.2.2 Y pY cY
      have aX : (rowsF l a).testBit X = true := tr ha jp.1 jp.2.1 jX.2.1
      have bX : (rowsF l b).testBit X = true := tr hb jp.1 jp.2.2.1 jX.2.1
      have qX := jq.2.2.2 X bX jX.2.2.1
      have YX := jY.2.2.2 X aX qX
      -- absorption
      have ma : (rowsF l m).testBit a = true := ((turn_le ha).1 jm.2.1).2
      have Za := jZ.2.2.2 a (hP a ha).1 ma
      have aZ := jZ.2.1
      have Wa : (rowsF l W).testBit a = true := ((turn_le ha).1 jW.2.1).2
      have aW : (rowsF l a).testBit W = true := ((turn_le jW.1).1 (jW.2.2.2 a ((turn_le ha).2 ⟨ha, (hP a ha).1⟩) ((turn_le jp.1).2 ⟨ha, jp.2.1⟩))).2
      refine Ev.congr (fun k => if_pos (by omega)) (Ev.congr (fun k => if_pos (by omega)) (Ev.congr (fun k => if_pos (by omega)) (Ev.congr (fun k => if_pos (by omega)) (Ev.congr (fun k => if_pos (by omega)) (Ev.congr (fun k => if_pos (by omega)) (Ev.congr (fun k => if_pos (by omega)) (Ev.congr (fun k => if_pos (by omega)) ?_)))))))
      refine Ev.bind (equal_ev h (by omega) hX hY XY YX) (Ev.congr (fun k => if_pos rfl) ?_)
      refine Ev.bind (equal_ev h (by omega) hZ ha Za aZ) (Ev.congr (fun k => if_pos rfl) ?_)
      exact Ev.bind (equal_ev h (by omega) hW ha Wa aW) (Ev.now _)
  · refine Ev.congr (f := fun _ => some true) (fun k => ?_) (Ev.now _)
    rw [if_neg hc]
    exact if_neg hc
end Go.Proofs.Ytlbjcmiegbejdaa.Q
