/- Layer 2, plain: the closure of any flows is a policy, and what is missing makes it. -/
import Derived.Test.YtlbjcmiegbejdaaQx11
import Derived.Test.YtlbjcmiegbejdaaP4
namespace Go.Proofs.Ytlbjcmiegbejdaa.Q
open Go.RowKit Go.Proofs.YtlbjcmiegbejdaaW.PrintWords Go.Proofs.YtlbjcmiegbejdaaW.PrintMore Go.Proofs.YtlbjcmiegbejdaaW.PrintLast Go.Proofs.Ytlbjcmiegbejdaa.Bm
set_option linter.unusedVariables false
set_option linter.unusedSimpArgs false
theorem missing_b' {l : List Int} (h : okUb l = true) : lattice_Missing.f l = some (if shp l = 0 then (lackTo (closureF l) (rowsF l) (labs l.length l.length), 0) else ([], shp l)) := by
  unfold lattice_Missing.f
  rw [if_pos h, shape_b h, Option.bind_some]
  split <;> rfl
/-- One more flow. -/
def addF (G : Nat → Nat) (e : S32) : Nat → Nat := upd G e.f0.toNat (G e.f0.toNat ||| 2 ^ e.f1.toNat)
def addAll (G : Nat → Nat) (L : List S32) : Nat → Nat := L.foldl addF G
theorem addF_bit (G : Nat → Nat) (e : S32) (a b : Nat) : (addF G e a).testBit b = true ↔ (G a).testBit b = true ∨ (e.f0.toNat = a ∧ e.f1.toNat = b) := by
  unfold addF upd
  by_cases h : a = e.f0.toNat
  · rw [if_pos h, Nat.testBit_or, Bool.or_eq_true, Nat.testBit_two_pow, h]
    simp
  · rw [if_neg h]
    constructor
    · exact .inl
    · rintro (h1 | ⟨h1, _⟩)
      · exact h1
      · exact absurd h1.symm h
theorem addAll_bit (a b : Nat) : ∀ (L : List S32) (G : Nat → Nat), (addAll G L a).testBit b = true ↔ (G a).testBit b = true ∨ ∃ e ∈ L, e.f0.toNat = a ∧ e.f1.toNat = b := by
  intro L
  induction L with
  | nil => intro G; simp [addAll]
  | cons e t ih =>
    intro G
    show (addAll (addF G e) t a).testBit b = true ↔ _
    rw [ih, addF_bit]
    constructor
    · rintro ((h | h) | ⟨x, hx, h⟩)
      · exact .inl h
      · exact .inr ⟨e, by simp, h⟩
      · exact .inr ⟨x, by simp [hx], h⟩
    · rintro (h | ⟨x, hx, h⟩)
      · exact .inl (.inl h)
      · rcases List.mem_cons.1 hx with rfl | hx
        · exact .inl (.inr h)
        · exact .inr ⟨x, hx, h⟩
theorem addAll_lt {n : Nat} : ∀ (L : List S32) (G : Nat → Nat), (∀ i, i < n → G i < 2 ^ n) → (∀ e ∈ L, e.f1.toNat < n) → ∀ i, i < n → addAll G L i < 2 ^ n := by
  intro L
  induction L with
  | nil => intro G h _ i hi; exact h i hi
  | cons e t ih =>
    intro G h he i hi
    refine ih (addF G e) (fun j hj => ?_) (fun x hx => he x (by simp [hx])) i hi
    unfold addF upd
    split
    · next hje => exact Nat.or_lt_two_pow (by rw [← hje]; exact h j hj) (Nat.pow_lt_pow_right (by decide) (he e (by simp)))
    · exact h j hj
theorem lackTo_mem {C R : Nat → Nat} {n : Nat} (hR : ∀ i, R i < 2 ^ 64) (e : S32) : e ∈ lackTo C R (labs n n) ↔ ∃ a b : Nat, a < n ∧ b < 64 ∧ e = ⟨(a : Int), (b : Int)⟩ ∧ (C a).testBit b = true ∧ (R a).testBit b = false := by
  unfold lackTo
  rw [List.mem_flatMap]
  constructor
  · rintro ⟨x, _, hx⟩
    unfold lackRow at hx
    rw [List.mem_map] at hx
    obtain ⟨y, hy, rfl⟩ := hx
    obtain ⟨h1, h2, h3⟩ := (lack_bit (hR x.val)).1 ((pfx_mem _ _).1 hy).2
    exact ⟨x.val, y.val, x.2, y.2, rfl, h1, h3⟩
  · rintro ⟨a, b, ha, hb, rfl, h1, h2⟩
    refine ⟨⟨a, ha⟩, mem_labs _, ?_⟩
    unfold lackRow
    rw [List.mem_map]
    exact ⟨⟨b, hb⟩, (pfx_mem _ _).2 ⟨hb, (lack_bit (hR a)).2 ⟨h1, hb, h2⟩⟩, rfl⟩
theorem addAll_is {l : List Int} (h : okUb l = true) (hs : shp l = 0) {i : Nat} (hi : i < l.length) : addAll (rowsF l) (lackTo (closureF l) (rowsF l) (labs l.length l.length)) i = closureF l i := by
  have h16 := (shp_zero hs).1
  have hR := rowsF_lt (okU_of h)
  apply Nat.eq_of_testBit_eq
  intro b
  rw [Bool.eq_iff_iff, addAll_bit]
  constructor
  · rintro (h1 | ⟨e, he, h1, h2⟩)
    · exact T_base hi h1 _
    · obtain ⟨a, c, _, _, rfl, h3, _⟩ := (lackTo_mem hR e).1 he
      simp only [Int.toNat_natCast] at h1 h2
      rw [← h1, ← h2]
      exact h3
  · intro h1
    cases hr : (rowsF l i).testBit b with
    | true => exact .inl rfl
    | false =>
      refine .inr ⟨⟨(i : Int), (b : Int)⟩, (lackTo_mem hR _).2 ⟨i, b, hi, ?_, rfl, h1, hr⟩, Int.toNat_natCast _, Int.toNat_natCast _⟩
      have := bit_lt (closure_ltn hs i) h1
      omega
theorem same2_ev {l : List Int} (h : l.length < 1000000) : Ev (fun k => rampartref02_Same.f k l l) true := by
  unfold rampartref02_Same.f
  exact Ev.bind (same_ev h) (Ev.now _)
theorem shl_one {i : Nat} (hi : i < 64) : shl .u64 1 (i : Int) = ((2 ^ i : Nat) : Int) := by
  have := wrap_pow (i := i) hi
  simp only [shl, IntKind.bits, Int.toNat_natCast] at *
  rw [Int.one_mul]
  rw [Nat.min_eq_left (by omega)]
  exact this
section
variable {l : List Int} (h : okUb l = true) (hs : shp l = 0)
include h hs
theorem closed_l0 {M : List S32} (hM : M = lackTo (closureF l) (rowsF l) (labs l.length l.length)) :
    ∀ (d i : Nat), M.length - i = d → i ≤ M.length → Ev (fun k => rampartlaw02_LatticeClosed.l0 k l M (rowsI (closureF l) l.length) (rowsI (addAll (rowsF l) (M.take i)) l.length) (i : Int)) true
  | 0, i, hd, hi => by
    obtain rfl : i = M.length := by omega
    have h16 := (shp_zero hs).1
    have h0 := (shp_zero hs).2.1
    have e : rowsI (addAll (rowsF l) (M.take M.length)) l.length = rowsI (closureF l) l.length := by
      rw [List.take_length, hM]
      exact rowsI_ext fun i hi => addAll_is h hs hi
    rw [e]
    have hlen := rowsI_len (closureF l) l.length
    have hcb : okUb (rowsI (closureF l) l.length) = true := okUb_rows fun i _ => pow64 (by omega) (closure_ltn hs i)
    have hc0 : chk (rowsI (closureF l) l.length) = 0 := chk_rows h0 h16 (fun i _ => closure_ltn hs i) (closure_pol hs)
    refine Ev.step (f := fun k => (rampartref02_Same.f k (rowsI (closureF l) l.length) (rowsI (closureF l) l.length)).bind fun t => if t = true then some (((M.length : Int) == 0) == (chk l == 0)) else some false) (fun k => ?_) (Ev.bind (same2_ev (by omega)) ?_)
    · simp only [rampartlaw02_LatticeClosed.l0]
      rw [if_neg (by omega), chk_b hcb, hc0, chk_b h]
      simp only [Option.bind_some, if_pos]
    · have hv : (((M.length : Int) == 0) == (chk l == 0)) = true := by
        have hp := pol_lack h hs
        rw [← hM] at hp
        rw [beq_iff_eq, Bool.eq_iff_iff, beq_iff_eq, beq_iff_eq]
        constructor
        · intro h1
          exact chk_of hs (hp.1 (List.length_eq_zero_iff.1 (by omega)))
        · intro h1
          have := List.length_eq_zero_iff.2 (hp.2 (chk_zero h1).2)
          omega
      refine Ev.congr (f := fun _ => some true) (fun k => ?_) (Ev.now _)
      rw [hv]
      rfl
  | d + 1, i, hd, hi => by
    have hil : i < M.length := by omega
    have ih := closed_l0 hM d (i + 1) (by omega) (by omega)
    have h16 := (shp_zero hs).1
    have hR := rowsF_lt (okU_of h)
    obtain ⟨a, b, ha, hb, he, h1, h2⟩ := (lackTo_mem (C := closureF l) (n := l.length) hR M[i]).1 (by rw [← hM]; exact List.getElem_mem hil)
    have hbn := bit_lt (closure_ltn hs a) h1
    have hrd : rd_T32 M (i : Int) = ⟨(a : Int), (b : Int)⟩ := by
      unfold rd_T32
      rw [Int.toNat_natCast, List.getD_eq_getElem?_getD, List.getElem?_eq_getElem hil, ← he]
      rfl
    have hML : M.length < 1000000 := by
      have := lackTo_len (closureF l) (rowsF l) (labs l.length l.length)
      rw [labs_len (by omega), ← hM] at this
      omega
    have hmem : ∀ e ∈ M.take i, e.f1.toNat < l.length := by
      intro e hee
      obtain ⟨a', b', _, _, rfl, h1', _⟩ := (lackTo_mem (C := closureF l) (n := l.length) hR e).1 (by rw [← hM]; exact List.mem_of_mem_take hee)
      simp only [Int.toNat_natCast]
      exact bit_lt (closure_ltn hs a') h1'
    have hGa : addAll (rowsF l) (M.take i) a < 2 ^ 64 := pow64 (by omega) (addAll_lt (M.take i) (rowsF l) (fun j _ => rows_all hs j) hmem a ha)
    have etk : addAll (rowsF l) (M.take (i + 1)) = upd (addAll (rowsF l) (M.take i)) a (addAll (rowsF l) (M.take i) a ||| 2 ^ b) := by
      unfold addAll
      rw [List.take_succ_eq_append_getElem hil, List.foldl_append, List.foldl_cons, List.foldl_nil, he]
      unfold addF
      simp only [Int.toNat_natCast]
    rw [etk, ← set_rowsI] at ih
    have hgl := rowsI_len (addAll (rowsF l) (M.take i)) l.length
    refine Ev.step (fun k => ?_) ih
    have c2 : IntKind.u64.wrap (b : Int) = (b : Int) := wu64 (by omega) (by omega)
    have c3 : bits .or .u64 ((addAll (rowsF l) (M.take i) a : Nat) : Int) ((2 ^ b : Nat) : Int) = ((addAll (rowsF l) (M.take i) a ||| 2 ^ b : Nat) : Int) := or_u64 hGa (Nat.pow_lt_pow_right (by decide) hb)
    simp only [rampartlaw02_LatticeClosed.l0]
    rw [if_pos (by omega), if_pos (by omega), hrd]
    simp only []
    rw [if_neg (by omega), if_neg (by omega), if_neg (by omega), if_neg (by omega), if_pos (by omega), if_pos (by omega), c2, if_pos (by omega), rd_rowsI ha, shl_one hb, c3, Int.toNat_natCast, w64_inc (by omega)]
end
theorem closed_ev {l0 : List Int} (h : okUb (l0.take 17) = true) : Ev (fun k => rampartlaw02_LatticeClosed.f k l0) true := by
  unfold rampartlaw02_LatticeClosed.f
  refine Ev.bind awake_ev (Ev.congr (fun k => if_pos rfl) ?_)
  simp only [Option.bind_some, missing_b' h]
  generalize l0.take 17 = l at h ⊢
  by_cases hs : shp l = 0
  · simp only [if_pos hs]
    refine Ev.congr (fun k => if_pos trivial) ?_
    have hc := closure_ev (okU_of h)
    unfold closureR at hc
    rw [if_pos (shp_zero hs).2.2.1] at hc
    refine Ev.bind hc ?_
    have h16 := (shp_zero hs).1
    refine Ev.congr (fun k => if_pos (by simp; omega)) ?_
    have := closed_l0 h hs rfl (lackTo (closureF l) (rowsF l) (labs l.length l.length)).length 0 (by omega) (by omega)
    have e : rowsI (addAll (rowsF l) ((lackTo (closureF l) (rowsF l) (labs l.length l.length)).take 0)) l.length = l := rowsI_F (okU_of h)
    rw [e] at this
    exact this
  · simp only [if_neg hs]
    refine Ev.congr (f := fun _ => some true) (fun k => ?_) (Ev.now _)
    rfl
end Go.Proofs.Ytlbjcmiegbejdaa.Q
