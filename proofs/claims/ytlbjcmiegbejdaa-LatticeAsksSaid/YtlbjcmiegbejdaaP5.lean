/- Layer 2, plain: what flows lack, by the document; which label flows to which. -/
import Derived.Test.YtlbjcmiegbejdaaQx16
import Derived.Test.YtlbjcmiegbejdaaP4
namespace Go.Proofs.Ytlbjcmiegbejdaa.Q
open Go.RowKit Go.Proofs.YtlbjcmiegbejdaaW.PrintWords Go.Proofs.YtlbjcmiegbejdaaW.PrintMore Go.Proofs.YtlbjcmiegbejdaaW.PrintLast Go.Proofs.Ytlbjcmiegbejdaa.Bm
set_option linter.unusedVariables false
set_option linter.unusedSimpArgs false
/-- The row of what a label lacks, up to label i. -/
def rowTo (a d i : Nat) : List S32 := (pfx d i).map fun y => ⟨(a : Int), ((y.val : Nat) : Int)⟩
theorem rowTo_yes {a d i : Nat} (hi : i < 64) (h : d.testBit i = true) : rowTo a d (i + 1) = rowTo a d i ++ [⟨(a : Int), (i : Int)⟩] := by
  unfold rowTo
  rw [pfx_yes hi h, List.map_append]
  rfl
theorem rowTo_no {a d i : Nat} (h : d.testBit i = false) : rowTo a d (i + 1) = rowTo a d i := by
  unfold rowTo
  rw [pfx_no h]
theorem rowTo_len (a d i : Nat) (hi : i ≤ 64) : (rowTo a d i).length ≤ 64 := by
  unfold rowTo
  rw [List.length_map]
  have := pfx_length d i
  omega
section
variable {l : List Int} (hl : okU l) (hs : shp l = 0)
include hl hs
theorem miss_l1 {a : Nat} (ha : a < l.length) {L : List S32} (hL : L.length ≤ 2000) {r : List S32 × Int} (h : Ev (fun k => rampartref02_Missing.l0 k l (rowsI (closureF l) l.length) (L ++ lackRow a (closureF l a &&& (18446744073709551615 - rowsF l a))) ((a + 1 : Nat) : Int)) r) :
    ∀ (d i : Nat), l.length - i = d → i ≤ l.length → Ev (fun k => rampartref02_Missing.l1 k l (rowsI (closureF l) l.length) (L ++ rowTo a (closureF l a &&& (18446744073709551615 - rowsF l a)) i) (a : Int) (i : Int)) r
  | 0, i, hd, hi => by
    obtain rfl : i = l.length := by omega
    have h16 := (shp_zero hs).1
    have e : lackRow a (closureF l a &&& (18446744073709551615 - rowsF l a)) = rowTo a (closureF l a &&& (18446744073709551615 - rowsF l a)) l.length := by
      unfold lackRow rowTo
      rw [pfx_full (n := l.length) (Nat.lt_of_le_of_lt Nat.and_le_left (closure_ltn hs a)) (by omega)]
    rw [e] at h
    refine Ev.step (fun k => ?_) h
    simp only [rampartref02_Missing.l1]
    rw [if_neg (by omega), w64_inc (by omega)]
  | d + 1, i, hd, hi => by
    have ih := miss_l1 ha hL h d (i + 1) (by omega) (by omega)
    have h16 := (shp_zero hs).1
    have hil : i < l.length := by omega
    have hra := (okU_at hl ha).2
    have hca : closureF l a < 2 ^ 64 := pow64 (by omega) (closure_ltn hs a)
    have hlb := lack_bit (c := closureF l a) (i := i) hra
    generalize hd_ : closureF l a &&& (18446744073709551615 - rowsF l a) = D at ih hlb ⊢
    have hln := rowTo_len a D i (by omega)
    have hcl := rowsI_len (closureF l) l.length
    refine Ev.step (f := fun k => (rampartref01_Has.f k ((closureF l a : Nat) : Int) (i : Int)).bind fun t => if t = true then ((rampartref01_Has.f k ((rowsF l a : Nat) : Int) (i : Int)).bind fun t' => if t' = true then rampartref02_Missing.l1 k l (rowsI (closureF l) l.length) (L ++ rowTo a D i) (a : Int) ((i + 1 : Nat) : Int) else rampartref02_Missing.l1 k l (rowsI (closureF l) l.length) ((L ++ rowTo a D i) ++ [⟨(a : Int), (i : Int)⟩]) (a : Int) ((i + 1 : Nat) : Int)) else rampartref02_Missing.l1 k l (rowsI (closureF l) l.length) (L ++ rowTo a D i) (a : Int) ((i + 1 : Nat) : Int)) (fun k => ?_) (Ev.bind (has_nat hca (by omega)) ?_)
    · have c1 : (a : Int) < (l.length : Int) := by omega
      have c2 : (L ++ rowTo a D i).length < 8796093022208 := by rw [List.length_append]; omega
      simp only [rampartref02_Missing.l1]
      rw [if_pos (by omega), if_pos (by omega), if_pos (by omega), rd_rowsI ha, rd_rows hl ha, w64_inc (by omega)]
      simp only [if_pos c1, if_pos c2]
    · cases hc : (closureF l a).testBit i with
      | false =>
        refine Ev.congr (fun k => if_neg (by simp)) ?_
        have hb : D.testBit i = false := by
          rw [← Bool.not_eq_true, hlb, hc]
          simp
        rw [rowTo_no hb] at ih
        exact ih
      | true =>
        refine Ev.congr (fun k => if_pos rfl) (Ev.bind (has_nat hra (by omega)) ?_)
        cases hr : (rowsF l a).testBit i with
        | true =>
          refine Ev.congr (fun k => if_pos rfl) ?_
          have hb : D.testBit i = false := by
            rw [← Bool.not_eq_true, hlb, hr]
            simp
          rw [rowTo_no hb] at ih
          exact ih
        | false =>
          refine Ev.congr (fun k => if_neg (by simp)) ?_
          have hb : D.testBit i = true := hlb.2 ⟨hc, by omega, hr⟩
          rw [rowTo_yes (by omega) hb, ← List.append_assoc] at ih
          exact ih
theorem miss_l0 : ∀ (d i : Nat), l.length - i = d → i ≤ l.length → Ev (fun k => rampartref02_Missing.l0 k l (rowsI (closureF l) l.length) (lackTo (closureF l) (rowsF l) (labs l.length i)) (i : Int)) (lackTo (closureF l) (rowsF l) (labs l.length l.length), 0)
  | 0, i, hd, hi => by
    obtain rfl : i = l.length := by omega
    refine Ev.step (f := fun _ => some (lackTo (closureF l) (rowsF l) (labs l.length l.length), (0 : Int))) (fun k => ?_) (Ev.now _)
    simp only [rampartref02_Missing.l0]
    rw [if_neg (by omega)]
  | d + 1, i, hd, hi => by
    have hil : i < l.length := by omega
    have ih := miss_l0 d (i + 1) (by omega) (by omega)
    have h16 := (shp_zero hs).1
    have hln := lackTo_len (closureF l) (rowsF l) (labs l.length i)
    rw [labs_len (by omega)] at hln
    rw [labs_next hil, lackTo_snoc] at ih
    have := miss_l1 hl hs hil (L := lackTo (closureF l) (rowsF l) (labs l.length i)) (by omega) ih l.length 0 (by omega) (by omega)
    have e : rowTo i (closureF l i &&& (18446744073709551615 - rowsF l i)) 0 = [] := rfl
    rw [e, List.append_nil] at this
    refine Ev.step (fun k => ?_) this
    simp only [rampartref02_Missing.l0]
    rw [if_pos (by omega)]
    rfl
end
theorem missing_ev {l : List Int} (h : okUb l = true) : Ev (fun k => rampartref02_Missing.f k l) (if shp l = 0 then (lackTo (closureF l) (rowsF l) (labs l.length l.length), 0) else ([], shp l)) := by
  unfold rampartref02_Missing.f
  refine Ev.bind (shape_ev h) ?_
  by_cases hs : shp l = 0
  · rw [if_pos hs]
    refine Ev.congr (fun k => if_pos hs) ?_
    have hc := closure_ev (okU_of h)
    unfold closureR at hc
    rw [if_pos (shp_zero hs).2.2.1] at hc
    refine Ev.bind hc ?_
    exact miss_l0 (okU_of h) hs l.length 0 (by omega) (by omega)
  · rw [if_neg hs]
    refine Ev.congr (f := fun _ => some (([], shp l) : List S32 × Int)) (fun k => if_neg hs) (Ev.now _)
theorem missing_b {l : List Int} (h : okUb l = true) : lattice_Missing.f l = some (if shp l = 0 then (lackTo (closureF l) (rowsF l) (labs l.length l.length), 0) else ([], shp l)) := by
  unfold lattice_Missing.f
  rw [if_pos h, shape_b h, Option.bind_some]
  split <;> rfl
theorem lack_len {l : List Int} (h : okUb l = true) : (if shp l = 0 then (lackTo (closureF l) (rowsF l) (labs l.length l.length), (0 : Int)) else ([], shp l)).1.length < 1000000 := by
  split
  · next hs =>
    have h1 := lackTo_len (closureF l) (rowsF l) (labs l.length l.length)
    rw [labs_len (by omega)] at h1
    have := (shp_zero hs).1
    show (lackTo (closureF l) (rowsF l) (labs l.length l.length)).length < 1000000
    omega
  · simp
theorem sameF_l0 {L : List S32} (h : L.length < 1000000) : ∀ (d i : Nat), L.length - i = d → i ≤ L.length → Ev (fun k => rampartlaw02_sameFlows.l0 k L L (i : Int)) true
  | 0, i, hd, hi => by
    refine Ev.step (f := fun _ => some true) (fun k => ?_) (Ev.now _)
    simp only [rampartlaw02_sameFlows.l0]
    rw [if_neg (by omega)]
  | d + 1, i, hd, hi => by
    refine Ev.step (fun k => ?_) (sameF_l0 h d (i + 1) (by omega) (by omega))
    simp only [rampartlaw02_sameFlows.l0]
    rw [if_pos (by omega), if_pos (by omega), if_pos (by omega), if_neg (by simp), w64_inc (by omega)]
theorem sameF_ev {L : List S32} (h : L.length < 1000000) : Ev (fun k => rampartlaw02_sameFlows.f k L L) true := by
  unfold rampartlaw02_sameFlows.f
  refine Ev.congr (fun k => if_pos rfl) (sameF_l0 h L.length 0 (by omega) (by omega))
theorem flows_bit {l : List Int} (hl : okU l) {a b : Int} (ha0 : 0 ≤ a) (ha : a < l.length) (hb0 : 0 ≤ b) (hb : b < 64) : lattice_policy_flows.f l a b = some ((rowsF l a.toNat).testBit b.toNat) := by
  obtain ⟨i, rfl⟩ := Int.eq_ofNat_of_zero_le ha0
  obtain ⟨j, rfl⟩ := Int.eq_ofNat_of_zero_le hb0
  unfold lattice_policy_flows.f
  rw [if_pos ha0, if_pos ha, if_pos hb0, rd_rows hl (by omega), Int.toNat_natCast, Int.toNat_natCast]
  have hi := (okU_at hl (show i < l.length by omega)).2
  obtain ⟨v, e1, e2, _⟩ := shr_nat hi j
  have e : shr .u64 ((rowsF l i : Nat) : Int) (j : Int) = (v : Int) := by
    rw [← e1]
    show ((rowsF l i : Nat) : Int) / 2 ^ min ((j : Int).toNat) 64 = _
    rw [Int.toNat_natCast, Nat.min_eq_left (by omega)]
  rw [e, e2]
  cases (rowsF l i).testBit j <;> rfl
theorem flows_b {l : List Int} (h : okUb l = true) (a b : Int) : lattice_Flows.f l a b = some (if askE l a b (chk l) = 0 then ((rowsF l a.toNat).testBit b.toNat, 0) else (false, askE l a b (chk l))) := by
  unfold lattice_Flows.f
  rw [chk_b h, Option.bind_some]
  by_cases h0 : askE l a b (chk l) = 0
  · obtain ⟨he, a0, a1, b0, b1⟩ := asked_zero h0
    have h16 := (shp_zero (chk_zero he).1).1
    rw [if_pos h0, if_pos h0, flows_bit (okU_of h) a0 a1 b0 (by omega)]
    rfl
  · rw [if_neg h0, if_neg h0]
theorem flows_ev {l : List Int} (h : okUb l = true) (a b : Int) : Ev (fun k => rampartref02_Flows.f k l a b) (if askE l a b (chk l) = 0 then ((rowsF l a.toNat).testBit b.toNat, 0) else (false, askE l a b (chk l))) := by
  unfold rampartref02_Flows.f
  refine Ev.bind (asked_ev h a b) ?_
  by_cases h0 : askE l a b (chk l) = 0
  · obtain ⟨he, a0, a1, b0, b1⟩ := asked_zero h0
    have h16 := (shp_zero (chk_zero he).1).1
    obtain ⟨i, rfl⟩ := Int.eq_ofNat_of_zero_le a0
    obtain ⟨j, rfl⟩ := Int.eq_ofNat_of_zero_le b0
    have hi : i < l.length := by omega
    have hv : (if askE l (i : Int) (j : Int) (chk l) = 0 then ((rowsF l (i : Int).toNat).testBit (j : Int).toNat, (0 : Int)) else (false, askE l (i : Int) (j : Int) (chk l))) = ((rowsF l i).testBit j, 0) := if_pos h0
    rw [hv]
    refine Ev.congr (fun k => if_pos h0) ?_
    refine Ev.congr (fun k => if_pos a0) ?_
    refine Ev.congr (fun k => if_pos a1) ?_
    rw [rd_rows (okU_of h) hi]
    exact Ev.bind (has_nat (okU_at (okU_of h) hi).2 (by omega)) (Ev.now _)
  · have hv : (if askE l a b (chk l) = 0 then ((rowsF l a.toNat).testBit b.toNat, (0 : Int)) else (false, askE l a b (chk l))) = (false, askE l a b (chk l)) := if_neg h0
    rw [hv]
    exact Ev.congr (fun k => if_neg h0) (Ev.now _)
theorem asks_ev {l0 : List Int} (h : okUb (l0.take 17) = true) (a b : Int) : Ev (fun k => rampartlaw02_LatticeAsks.f k l0 a b) true := by
  unfold rampartlaw02_LatticeAsks.f
  simp only [Option.bind_some, missing_b h, flows_b h, chk_b h]
  have hl := lack_len h
  refine Ev.bind (missing_ev h) (Ev.bind (flows_ev h a b) (Ev.bind (chk_ev h) ?_))
  refine Ev.congr (fun k => if_pos rfl) (Ev.bind (sameF_ev hl) ?_)
  refine Ev.congr (fun k => ?_) awake_ev
  simp
end Go.Proofs.Ytlbjcmiegbejdaa.Q
