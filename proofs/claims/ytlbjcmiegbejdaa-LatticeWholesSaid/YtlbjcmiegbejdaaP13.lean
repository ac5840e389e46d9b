/- Layer 2, plain: classes, and the order in which lower labels stand first. -/
import Derived.Test.YtlbjcmiegbejdaaQx20
import Derived.Test.YtlbjcmiegbejdaaQx21
import Derived.Test.YtlbjcmiegbejdaaP12
namespace Go.Proofs.Ytlbjcmiegbejdaa.Q
open Go.RowKit Go.Proofs.YtlbjcmiegbejdaaW.PrintWords Go.Proofs.YtlbjcmiegbejdaaW.PrintMore Go.Proofs.YtlbjcmiegbejdaaW.PrintLast Go.Proofs.Ytlbjcmiegbejdaa.Bm
set_option linter.unusedVariables false
set_option linter.unusedSimpArgs false
/-! ### the class of a label -/
theorem cls_bit_gen {m : Nat} (R : Nat → Nat) (a i : Nat) : ∀ (pre : List (Fin m)) (o : Nat), (pre.foldl (fun o x => if (R a).testBit x.val = true ∧ (R x.val).testBit a = true then o ||| 2 ^ x.val else o) o).testBit i = true ↔ o.testBit i = true ∨ ∃ x ∈ pre, x.val = i ∧ (R a).testBit x.val = true ∧ (R x.val).testBit a = true := by
  intro pre
  induction pre with
  | nil => intro o; simp
  | cons x t ih =>
    intro o
    rw [List.foldl_cons, ih]
    by_cases hc : (R a).testBit x.val = true ∧ (R x.val).testBit a = true
    · rw [if_pos hc, Nat.testBit_or, Bool.or_eq_true, Nat.testBit_two_pow]
      constructor
      · rintro ((h | h) | ⟨y, hy, h⟩)
        · exact .inl h
        · exact .inr ⟨x, by simp, of_decide_eq_true h, hc⟩
        · exact .inr ⟨y, by simp [hy], h⟩
      · rintro (h | ⟨y, hy, h1, h2⟩)
        · exact .inl (.inl h)
        · rcases List.mem_cons.1 hy with rfl | hy
          · exact .inl (.inr (decide_eq_true h1))
          · exact .inr ⟨y, hy, h1, h2⟩
    · rw [if_neg hc]
      constructor
      · rintro (h | ⟨y, hy, h⟩)
        · exact .inl h
        · exact .inr ⟨y, by simp [hy], h⟩
      · rintro (h | ⟨y, hy, h1, h2⟩)
        · exact .inl h
        · rcases List.mem_cons.1 hy with rfl | hy
          · exact absurd h2 hc
          · exact .inr ⟨y, hy, h1, h2⟩
theorem clsA_bit {l : List Int} {a x : Nat} : (clsA l a).testBit x = true ↔ x < l.length ∧ (rowsF l a).testBit x = true ∧ (rowsF l x).testBit a = true := by
  unfold clsA cls
  rw [cls_bit_gen, Nat.zero_testBit]
  constructor
  · rintro (h | ⟨y, _, rfl, h1, h2⟩)
    · cases h
    · exact ⟨y.2, h1, h2⟩
  · rintro ⟨hx, h1, h2⟩
    exact .inr ⟨⟨x, hx⟩, mem_labs _, rfl, h1, h2⟩
theorem clsA_ltn (l : List Int) (a : Nat) : clsA l a < 2 ^ l.length := by
  apply Nat.lt_pow_two_of_testBit
  intro i hi
  cases hb : (clsA l a).testBit i with
  | false => rfl
  | true =>
    have := (clsA_bit.1 hb).1
    omega
def eqB (R : Nat → Nat) (a x : Nat) : Bool := (R a).testBit x && (R x).testBit a
def blB (R : Nat → Nat) (a x : Nat) : Bool := (R x).testBit a && !(R a).testBit x
theorem clsA_ofP (l : List Int) (a : Nat) : ofP (eqB (rowsF l) a) l.length = clsA l a := by
  apply bits_eq l.length (ofP_lt _ _) (clsA_ltn l a)
  intro i hi
  rw [testBit_ofP, decide_eq_true hi, Bool.true_and, Bool.eq_iff_iff, clsA_bit]
  unfold eqB
  rw [Bool.and_eq_true]
  exact ⟨fun h => ⟨hi, h⟩, fun h => h.2⟩
section
variable {l : List Int} (hl : okU l) (h64 : l.length ≤ 64)
include hl h64
theorem requal_l0 {a : Nat} (ha : a < l.length) : ∀ (d i : Nat), l.length - i = d → i ≤ l.length → Ev (fun k => rampartref02_equal.l0 k l (a : Int) ((ofP (eqB (rowsF l) a) i : Nat) : Int) (i : Int)) ((ofP (eqB (rowsF l) a) l.length : Nat) : Int)
  | 0, i, hd, hi => by
    obtain rfl : i = l.length := by omega
    refine Ev.step (f := fun _ => some ((ofP (eqB (rowsF l) a) l.length : Nat) : Int)) (fun k => ?_) (Ev.now _)
    simp only [rampartref02_equal.l0]
    rw [if_neg (by omega)]
  | d + 1, i, hd, hi => by
    have hil : i < l.length := by omega
    have ih := requal_l0 ha d (i + 1) (by omega) (by omega)
    have hofl : ofP (eqB (rowsF l) a) i < 2 ^ 64 := pow64 (by omega) (ofP_lt _ _)
    refine Ev.step (f := fun k => (rampartref01_Has.f k ((rowsF l a : Nat) : Int) (i : Int)).bind fun t => if t = true then ((rampartref01_Has.f k ((rowsF l i : Nat) : Int) (a : Int)).bind fun t => if t = true then rampartref02_equal.l0 k l (a : Int) ((ofP (eqB (rowsF l) a) i ||| 2 ^ i : Nat) : Int) ((i + 1 : Nat) : Int) else rampartref02_equal.l0 k l (a : Int) ((ofP (eqB (rowsF l) a) i : Nat) : Int) ((i + 1 : Nat) : Int)) else rampartref02_equal.l0 k l (a : Int) ((ofP (eqB (rowsF l) a) i : Nat) : Int) ((i + 1 : Nat) : Int)) (fun k => ?_) (Ev.bind (has_nat (okU_at hl ha).2 (by omega)) ?_)
    · have c1 : (0 : Int) ≤ (a : Int) := by omega
      have c2 : (a : Int) < (l.length : Int) := by omega
      have c3 : (0 : Int) ≤ (i : Int) := by omega
      have c4 : IntKind.u64.wrap (i : Int) = (i : Int) := wu64 (by omega) (by omega)
      have c5 : bits .or .u64 ((ofP (eqB (rowsF l) a) i : Nat) : Int) ((2 ^ i : Nat) : Int) = ((ofP (eqB (rowsF l) a) i ||| 2 ^ i : Nat) : Int) := or_u64 hofl (Nat.pow_lt_pow_right (by decide) (by omega))
      simp only [rampartref02_equal.l0]
      rw [if_pos (by omega), c4, rd_rows hl ha, rd_rows hl hil, w64_inc (by omega), shl_one' (by omega), c5]
      simp only [if_pos c1, if_pos c2, if_pos c3]
    · cases h1 : (rowsF l a).testBit i with
      | false =>
        have hb : eqB (rowsF l) a i = false := by unfold eqB; rw [h1]; rfl
        rw [ofP_no hb] at ih
        exact Ev.congr (fun k => if_neg (by simp)) ih
      | true =>
        refine Ev.congr (fun k => if_pos rfl) (Ev.bind (has_nat (okU_at hl hil).2 (by omega)) ?_)
        cases h2 : (rowsF l i).testBit a with
        | false =>
          have hb : eqB (rowsF l) a i = false := by unfold eqB; rw [h1, h2]; rfl
          rw [ofP_no hb] at ih
          exact Ev.congr (fun k => if_neg (by simp)) ih
        | true =>
          have hb : eqB (rowsF l) a i = true := by unfold eqB; rw [h1, h2]; rfl
          rw [ofP_yes hb] at ih
          exact Ev.congr (fun k => if_pos rfl) ih
theorem requal_ev {a : Nat} (ha : a < l.length) : Ev (fun k => rampartref02_equal.f k l (a : Int)) ((clsA l a : Nat) : Int) := by
  have := requal_l0 hl h64 ha l.length 0 (by omega) (by omega)
  rw [clsA_ofP] at this
  exact this
theorem rbelow_l0 {a : Nat} (ha : a < l.length) : ∀ (d i : Nat), l.length - i = d → i ≤ l.length → Ev (fun k => rampartref02_below.l0 k l (a : Int) ((ofP (blB (rowsF l) a) i : Nat) : Int) (i : Int)) ((ofP (blB (rowsF l) a) l.length : Nat) : Int)
  | 0, i, hd, hi => by
    obtain rfl : i = l.length := by omega
    refine Ev.step (f := fun _ => some ((ofP (blB (rowsF l) a) l.length : Nat) : Int)) (fun k => ?_) (Ev.now _)
    simp only [rampartref02_below.l0]
    rw [if_neg (by omega)]
  | d + 1, i, hd, hi => by
    have hil : i < l.length := by omega
    have ih := rbelow_l0 ha d (i + 1) (by omega) (by omega)
    have hofl : ofP (blB (rowsF l) a) i < 2 ^ 64 := pow64 (by omega) (ofP_lt _ _)
    refine Ev.step (f := fun k => (rampartref01_Has.f k ((rowsF l i : Nat) : Int) (a : Int)).bind fun t => if t = true then ((rampartref01_Has.f k ((rowsF l a : Nat) : Int) (i : Int)).bind fun t => if t = true then rampartref02_below.l0 k l (a : Int) ((ofP (blB (rowsF l) a) i : Nat) : Int) ((i + 1 : Nat) : Int) else rampartref02_below.l0 k l (a : Int) ((ofP (blB (rowsF l) a) i ||| 2 ^ i : Nat) : Int) ((i + 1 : Nat) : Int)) else rampartref02_below.l0 k l (a : Int) ((ofP (blB (rowsF l) a) i : Nat) : Int) ((i + 1 : Nat) : Int)) (fun k => ?_) (Ev.bind (has_nat (okU_at hl hil).2 (by omega)) ?_)
    · have c1 : (0 : Int) ≤ (a : Int) := by omega
      have c2 : (a : Int) < (l.length : Int) := by omega
      have c3 : (0 : Int) ≤ (i : Int) := by omega
      have c4 : IntKind.u64.wrap (i : Int) = (i : Int) := wu64 (by omega) (by omega)
      have c5 : bits .or .u64 ((ofP (blB (rowsF l) a) i : Nat) : Int) ((2 ^ i : Nat) : Int) = ((ofP (blB (rowsF l) a) i ||| 2 ^ i : Nat) : Int) := or_u64 hofl (Nat.pow_lt_pow_right (by decide) (by omega))
      simp only [rampartref02_below.l0]
      rw [if_pos (by omega), c4, rd_rows hl ha, rd_rows hl hil, w64_inc (by omega), shl_one' (by omega), c5]
      simp only [if_pos c1, if_pos c2, if_pos c3]
    · cases h1 : (rowsF l i).testBit a with
      | false =>
        have hb : blB (rowsF l) a i = false := by unfold blB; rw [h1]; rfl
        rw [ofP_no hb] at ih
        exact Ev.congr (fun k => if_neg (by simp)) ih
      | true =>
        refine Ev.congr (fun k => if_pos rfl) (Ev.bind (has_nat (okU_at hl ha).2 (by omega)) ?_)
        cases h2 : (rowsF l a).testBit i with
        | true =>
          have hb : blB (rowsF l) a i = false := by unfold blB; rw [h1, h2]; rfl
          rw [ofP_no hb] at ih
          exact Ev.congr (fun k => if_pos rfl) ih
        | false =>
          have hb : blB (rowsF l) a i = true := by unfold blB; rw [h1, h2]; rfl
          rw [ofP_yes hb] at ih
          exact Ev.congr (fun k => if_neg (by simp)) ih
end
/-! ### the classes -/
theorem nth0 {s i : Nat} (hi : i < 64) (hb : s.testBit i = true) : (nthR (pfx s 64) 0).1 = (i : Int) ↔ ∀ j, j < i → s.testBit j = false := by
  have hv := pfx_val s 64 (Nat.le_refl _)
  have hf : ((List.range 64).filter fun i => s.testBit i).head? = (List.range 64).find? fun i => s.testBit i := List.head?_filter
  rw [← hv] at hf
  cases hp : pfx s 64 with
  | nil =>
    have : (⟨i, hi⟩ : Fin 64) ∈ pfx s 64 := (pfx_mem _ _).2 ⟨hi, hb⟩
    rw [hp] at this
    cases this
  | cons x t =>
    rw [hp] at hf
    have h2 := hf.symm
    rw [List.map_cons, List.head?_cons, List.find?_range_eq_some] at h2
    obtain ⟨h3, h4, h5⟩ := h2
    have e : (nthR (x :: t) 0).1 = ((x.val : Nat) : Int) := rfl
    rw [e]
    constructor
    · intro h6 j hj
      have : x.val = i := by omega
      have := h5 j (by omega)
      simpa using this
    · intro h6
      have h7 : ¬ x.val < i := fun hlt => by
        have := h6 x.val hlt
        rw [h3] at this
        cases this
      have h8 : ¬ i < x.val := fun hlt => by
        have := h5 i hlt
        rw [hb] at this
        cases this
      omega
theorem clsTo_len' {l : List Int} {i : Nat} (hi : i ≤ l.length) : (clsTo l (labs l.length i)).length ≤ l.length := by
  have h1 := clsTo_len (l := l) (labs l.length i)
  rw [labs_len hi] at h1
  omega
theorem cls_first {l : List Int} (hP : Pol (rowsF l) l.length) (h64 : l.length ≤ 64) {i : Nat} (hi : i < l.length) : (clsN l i).1 = (i : Int) ↔ ¬ ∃ j, j < i ∧ (clsA l i).testBit j = true := by
  have hself : (clsA l i).testBit i = true := clsA_bit.2 ⟨hi, (hP i hi).1, (hP i hi).1⟩
  have h1 := nth0 (s := clsA l i) (by omega) hself
  have e : nthR (pfx (clsA l i) 64) 0 = clsN l i := rfl
  rw [e] at h1
  rw [h1]
  constructor
  · rintro h ⟨j, hj, hb⟩
    rw [h j hj] at hb
    cases hb
  · intro h j hj
    cases hb : (clsA l i).testBit j with
    | false => rfl
    | true => exact absurd ⟨j, hj, hb⟩ h
theorem rclasses_l0 {l : List Int} (h : okUb l = true) (hs : shp l = 0) (hP : Pol (rowsF l) l.length) : ∀ (d i : Nat), l.length - i = d → i ≤ l.length → ∀ s : Nat, s < 2 ^ l.length → (∀ x, s.testBit x = true ↔ ∃ b, b < i ∧ (clsA l b).testBit x = true) →
    Ev (fun k => rampartref02_Classes.l0 k l (clsTo l (labs l.length i)) (s : Int) (i : Int)) (clsTo l (labs l.length l.length), 0)
  | 0, i, hd, hi, s, hsl, hsb => by
    obtain rfl : i = l.length := by omega
    refine Ev.step (f := fun _ => some (clsTo l (labs l.length l.length), (0 : Int))) (fun k => ?_) (Ev.now _)
    simp only [rampartref02_Classes.l0]
    rw [if_neg (by omega)]
  | d + 1, i, hd, hi, s, hsl, hsb => by
    have hil : i < l.length := by omega
    have h16 := (shp_zero hs).1
    have hl := okU_of h
    have hs64 : s < 2 ^ 64 := pow64 (by omega) hsl
    have hln := clsTo_len' (l := l) hi
    have h64_ : l.length ≤ 64 := by omega
    have hd1 : l.length - (i + 1) = d := by omega
    have hi1 : i + 1 ≤ l.length := by omega
    have hseen : s.testBit i = true ↔ ∃ j, j < i ∧ (clsA l i).testBit j = true := by
      rw [hsb]
      constructor
      · rintro ⟨b, hb, hx⟩
        obtain ⟨_, h1, h2⟩ := clsA_bit.1 hx
        exact ⟨b, hb, clsA_bit.2 ⟨by omega, h2, h1⟩⟩
      · rintro ⟨b, hb, hx⟩
        obtain ⟨_, h1, h2⟩ := clsA_bit.1 hx
        exact ⟨b, hb, clsA_bit.2 ⟨hil, h2, h1⟩⟩
    have hee := requal_ev hl (by omega) hil
    refine Ev.step (f := fun k => (rampartref01_Has.f k (s : Int) (i : Int)).bind fun t => if t = true then rampartref02_Classes.l0 k l (clsTo l (labs l.length i)) (s : Int) ((i + 1 : Nat) : Int) else ((rampartref02_equal.f k l (i : Int)).bind fun t574 => (rampartref02_equal.f k l (i : Int)).bind fun t578 => rampartref02_Classes.l0 k l (clsTo l (labs l.length i) ++ [t574]) (bits .or .u64 (s : Int) t578) ((i + 1 : Nat) : Int))) (fun k => ?_) (Ev.bind (has_nat hs64 (by omega)) ?_)
    · have c1 : (clsTo l (labs l.length i)).length < 17592186044416 := by omega
      simp only [rampartref02_Classes.l0]
      rw [if_pos (by omega), w64_inc (by omega)]
      simp only [if_pos c1]
    · cases hsi : s.testBit i with
      | true =>
        have ih := rclasses_l0 h hs hP d (i + 1) hd1 hi1 s hsl (fun x => by
          rw [hsb]
          constructor
          · rintro ⟨b, hb, hx⟩
            exact ⟨b, Nat.lt_succ_of_lt hb, hx⟩
          · rintro ⟨b, hb, hx⟩
            rcases Nat.lt_succ_iff_lt_or_eq.1 hb with h1 | rfl
            · exact ⟨b, h1, hx⟩
            · obtain ⟨j, hj, hbj⟩ := hseen.1 hsi
              obtain ⟨hjn, h1, h2⟩ := clsA_bit.1 hbj
              obtain ⟨hxn, h3, h4⟩ := clsA_bit.1 hx
              exact ⟨j, hj, clsA_bit.2 ⟨hxn, (hP j hjn).2 b hil h2 x h3, (hP x hxn).2 b hil h4 j h1⟩⟩)
        rw [labs_next hil, clsTo_no (x := ⟨i, hil⟩) (fun e => (cls_first hP h64_ hil).1 e (hseen.1 hsi))] at ih
        exact Ev.congr (fun k => if_pos rfl) ih
      | false =>
        have hcl := clsA_ltn l i
        have ih := rclasses_l0 h hs hP d (i + 1) hd1 hi1 (s ||| clsA l i) (Nat.or_lt_two_pow hsl hcl) (fun x => by
          rw [Nat.testBit_or, Bool.or_eq_true, hsb]
          constructor
          · rintro (⟨b, hb, hx⟩ | hx)
            · exact ⟨b, Nat.lt_succ_of_lt hb, hx⟩
            · exact ⟨i, Nat.lt_succ_self i, hx⟩
          · rintro ⟨b, hb, hx⟩
            rcases Nat.lt_succ_iff_lt_or_eq.1 hb with h1 | rfl
            · exact .inl ⟨b, h1, hx⟩
            · exact .inr hx)
        rw [labs_next hil, clsTo_yes (x := ⟨i, hil⟩) ((cls_first hP h64_ hil).2 (fun hj => by have := hseen.2 hj; rw [hsi] at this; cases this)), ← or_u64 hs64 (pow64 (by omega) hcl)] at ih
        exact Ev.congr (fun k => if_neg (by simp)) (Ev.bind hee (Ev.bind hee ih))
theorem classes_b {l : List Int} (h : okUb l = true) : lattice_Classes.f l = some (if chk l = 0 then (clsTo l (labs l.length l.length), 0) else ([], chk l)) := by
  unfold lattice_Classes.f
  rw [chk_b h, Option.bind_some]
  split <;> rfl
theorem classes_ev {l : List Int} (h : okUb l = true) : Ev (fun k => rampartref02_Classes.f k l) (if chk l = 0 then (clsTo l (labs l.length l.length), 0) else ([], chk l)) := by
  unfold rampartref02_Classes.f
  refine Ev.bind (chk_ev h) ?_
  by_cases h0 : chk l = 0
  · have hv : (if chk l = 0 then (clsTo l (labs l.length l.length), (0 : Int)) else ([], chk l)) = (clsTo l (labs l.length l.length), 0) := if_pos h0
    rw [hv]
    obtain ⟨hs, hP⟩ := chk_zero h0
    refine Ev.congr (fun k => if_pos h0) ?_
    exact rclasses_l0 h hs hP l.length 0 (by omega) (by omega) 0 (Nat.two_pow_pos _) (fun x => by simp)
  · have hv : (if chk l = 0 then (clsTo l (labs l.length l.length), (0 : Int)) else ([], chk l)) = ([], chk l) := if_neg h0
    rw [hv]
    exact Ev.congr (fun k => if_neg h0) (Ev.now _)
/-! ### is it a lattice? -/
theorem rlat_l1 {l : List Int} (h : okUb l = true) (hs : shp l = 0) {x : Nat} (hx : x < l.length) (hgx : ∀ x', x' < x → ∀ y', y' < l.length → badB l x' y' = false)
    (hn : (∀ y', y' < l.length → badB l x y' = false) → Ev (fun k => rampartref02_Lattice.l0 k l ((x + 1 : Nat) : Int)) (latT l)) :
    ∀ (d y : Nat), l.length - y = d → y ≤ l.length → (∀ y', y' < y → badB l x y' = false) → Ev (fun k => rampartref02_Lattice.l1 k l (x : Int) (y : Int)) (latT l)
  | 0, y, hd, hy, hg => by
    obtain rfl : y = l.length := by omega
    have h16 := (shp_zero hs).1
    refine Ev.step (fun k => ?_) (hn hg)
    simp only [rampartref02_Lattice.l1]
    rw [if_neg (by omega), w64_inc (by omega)]
  | d + 1, y, hd, hy, hg => by
    have hyl : y < l.length := by omega
    have h16 := (shp_zero hs).1
    have hj := joins_ev h (by omega) (a := (x : Int)) (b := (y : Int)) (by omega) (by omega) (by omega) (by omega)
    have hm := meets_ev h hs (a := (x : Int)) (b := (y : Int)) (by omega) (by omega) (by omega) (by omega)
    have hbad : badB l x y = true → latT l = ((x : Int), (y : Int), false, 0) := by
      intro hb
      have hF : FirstAt l (labs l.length x ++ [⟨x, hx⟩]) ⟨x, hx⟩ ⟨y, hyl⟩ := by
        refine ⟨labs l.length x, rfl, ?_, labs l.length y, ?_, ?_, hb⟩
        · intro x' hx' y'
          refine hgx x'.val ?_ y'.val y'.2
          unfold labs at hx'
          rw [List.mem_take_iff_getElem] at hx'
          obtain ⟨i, hi, e⟩ := hx'
          rw [← e]
          simp at hi ⊢
          omega
        · rw [← labs_next hyl]
          exact labs_to (by omega)
        · intro y' hy'
          refine hg y'.val ?_
          unfold labs at hy'
          rw [List.mem_take_iff_getElem] at hy'
          obtain ⟨i, hi, e⟩ := hy'
          rw [← e]
          simp at hi ⊢
          omega
      have := latF_some (by rw [← labs_next hx]; exact labs_to (by omega)) hF
      unfold latT
      rw [this]
    refine Ev.step (f := fun k => (rampartref02_joins.f k l (x : Int) (y : Int)).bind fun t => if t = 0 then some ((x : Int), (y : Int), false, 0) else ((rampartref02_meets.f k l (x : Int) (y : Int)).bind fun t' => if t' = 0 then some ((x : Int), (y : Int), false, 0) else rampartref02_Lattice.l1 k l (x : Int) ((y + 1 : Nat) : Int))) (fun k => ?_) (Ev.bind hj ?_)
    · simp only [rampartref02_Lattice.l1]
      rw [if_pos (by omega), w64_inc (by omega)]
    · by_cases h1 : jnF l (x : Int) (y : Int) = 0
      · rw [hbad (by unfold badB; rw [decide_eq_true h1]; rfl)]
        exact Ev.congr (fun k => if_pos h1) (Ev.now _)
      · refine Ev.congr (fun k => if_neg h1) (Ev.bind hm ?_)
        by_cases h2 : jnF (turnL l) (x : Int) (y : Int) = 0
        · rw [hbad (by unfold badB; rw [decide_eq_true h2, Bool.or_true])]
          exact Ev.congr (fun k => if_pos h2) (Ev.now _)
        · refine Ev.congr (fun k => if_neg h2) (rlat_l1 h hs hx hgx hn d (y + 1) (by omega) (by omega) ?_)
          intro y' hy'
          rcases Nat.lt_succ_iff_lt_or_eq.1 hy' with h3 | rfl
          · exact hg y' h3
          · unfold badB
            rw [decide_eq_false h1, decide_eq_false h2]
            rfl
theorem rlat_l0 {l : List Int} (h : okUb l = true) (hs : shp l = 0) : ∀ (d x : Nat), l.length - x = d → x ≤ l.length → (∀ x', x' < x → ∀ y', y' < l.length → badB l x' y' = false) → Ev (fun k => rampartref02_Lattice.l0 k l (x : Int)) (latT l)
  | 0, x, hd, hx, hg => by
    obtain rfl : x = l.length := by omega
    have e : latT l = (0, 0, true, 0) := by
      unfold latT
      rw [latF_none fun a b => hg a.val a.2 b.val b.2]
    rw [e]
    refine Ev.step (f := fun _ => some ((0, 0, true, 0) : Int × Int × Bool × Int)) (fun k => ?_) (Ev.now _)
    simp only [rampartref02_Lattice.l0]
    rw [if_neg (by omega)]
  | d + 1, x, hd, hx, hg => by
    have hxl : x < l.length := by omega
    have := rlat_l1 h hs hxl hg (fun hgy => rlat_l0 h hs d (x + 1) (by omega) (by omega) (fun x' hx' y' hy' => by
      rcases Nat.lt_succ_iff_lt_or_eq.1 hx' with h3 | rfl
      · exact hg x' h3 y' hy'
      · exact hgy y' hy')) l.length 0 (by omega) (by omega) (fun y' hy' => absurd hy' (by omega))
    refine Ev.step (fun k => ?_) this
    simp only [rampartref02_Lattice.l0]
    rw [if_pos (by omega)]
    rfl
theorem lattice_b' {l : List Int} (h : okUb l = true) : lattice_Lattice.f l = some (if chk l = 0 then latT l else (0, 0, false, chk l)) := by
  unfold lattice_Lattice.f
  rw [chk_b h, Option.bind_some]
  split <;> rfl
theorem lattice_ev {l : List Int} (h : okUb l = true) : Ev (fun k => rampartref02_Lattice.f k l) (if chk l = 0 then latT l else (0, 0, false, chk l)) := by
  unfold rampartref02_Lattice.f
  refine Ev.bind (chk_ev h) ?_
  by_cases h0 : chk l = 0
  · have hv : (if chk l = 0 then latT l else (0, 0, false, chk l)) = latT l := if_pos h0
    rw [hv]
    refine Ev.congr (fun k => if_pos h0) ?_
    exact rlat_l0 h (chk_zero h0).1 l.length 0 (by omega) (by omega) (fun x hx => absurd hx (by omega))
  · have hv : (if chk l = 0 then latT l else (0, 0, false, chk l)) = (0, 0, false, chk l) := if_neg h0
    rw [hv]
    exact Ev.congr (fun k => if_neg h0) (Ev.now _)
end Go.Proofs.Ytlbjcmiegbejdaa.Q

/- Layer 2, plain: the order in which lower labels stand first. -/
namespace Go.Proofs.Ytlbjcmiegbejdaa.Q
open Go.RowKit Go.Proofs.YtlbjcmiegbejdaaW.PrintWords Go.Proofs.YtlbjcmiegbejdaaW.PrintMore Go.Proofs.YtlbjcmiegbejdaaW.PrintLast Go.Proofs.Ytlbjcmiegbejdaa.Bm
set_option linter.unusedVariables false
set_option linter.unusedSimpArgs false
/-- Nothing that is left is below a. -/
def Min (l : List Int) (left a : Nat) : Prop := ∀ b, b < l.length → (rowsF l b).testBit a = true → (rowsF l a).testBit b = false → left.testBit b = false
/-- What is left without a. -/
def less (left a : Nat) : Nat := left &&& (18446744073709551615 - 2 ^ a)
theorem less_bit {left a b : Nat} (ha : a < 64) (hl : left < 2 ^ 64) : (less left a).testBit b = (left.testBit b && !decide (a = b)) := by
  unfold less
  rw [Nat.testBit_and, not_bit (Nat.pow_lt_pow_right (by decide) ha), Nat.testBit_two_pow]
  by_cases hb : b < 64
  · rw [decide_eq_true hb, Bool.true_and]
  · rw [Nat.testBit_lt_two_pow (Nat.lt_of_lt_of_le hl (Nat.pow_le_pow_right (by decide) (by omega)))]
    rfl
theorem less_lt {left a n : Nat} (h : left < 2 ^ n) : less left a < 2 ^ n := Nat.lt_of_le_of_lt Nat.and_le_left h
/-- How many are left. -/
def cnt (s : Nat) : Nat → Nat
  | 0 => 0
  | n + 1 => cnt s n + (if s.testBit n then 1 else 0)
theorem cnt_ext {s s' : Nat} : ∀ n, (∀ i, i < n → s.testBit i = s'.testBit i) → cnt s n = cnt s' n
  | 0, _ => rfl
  | n + 1, h => by
    rw [cnt, cnt, cnt_ext n (fun i hi => h i (by omega)), h n (by omega)]
theorem cnt_less {left a : Nat} (ha : a < 64) (hl : left < 2 ^ 64) (hb : left.testBit a = true) : ∀ n, a < n → cnt (less left a) n + 1 = cnt left n
  | 0, h => absurd h (by omega)
  | n + 1, h => by
    have hnn := less_bit (left := left) (a := a) (b := n) ha hl
    by_cases hna : a = n
    · subst hna
      have e := cnt_ext (s := less left a) (s' := left) a (fun i hi => by
        rw [less_bit ha hl, decide_eq_false (show ¬ a = i by omega)]
        simp)
      rw [cnt, cnt, hnn, hb, e]
      simp
    · have ih := cnt_less ha hl hb n (by omega)
      rw [cnt, cnt, hnn, decide_eq_false hna]
      simp only [Bool.not_false, Bool.and_true]
      omega
theorem cnt_zero {left : Nat} : ∀ n, cnt left n = 0 → ∀ i, i < n → left.testBit i = false
  | 0, _, i, hi => absurd hi (by omega)
  | n + 1, h, i, hi => by
    rw [cnt] at h
    rcases Nat.lt_succ_iff_lt_or_eq.1 hi with h1 | rfl
    · exact cnt_zero n (by omega) i h1
    · cases hb : left.testBit i with
      | false => rfl
      | true => rw [hb] at h; simp at h
theorem cnt_full : ∀ n m, n ≤ m → cnt (2 ^ m - 1) n = n
  | 0, _, _ => rfl
  | n + 1, m, h => by
    rw [cnt, cnt_full n m (by omega), Nat.testBit_two_pow_sub_one, decide_eq_true (by omega)]
    rfl
theorem left_zero {left n : Nat} (h : left < 2 ^ n) (hc : cnt left n = 0) : left = 0 := by
  apply Nat.eq_of_testBit_eq
  intro i
  rw [Nat.zero_testBit]
  by_cases hi : i < n
  · exact cnt_zero n hc i hi
  · exact Nat.testBit_lt_two_pow (Nat.lt_of_lt_of_le h (Nat.pow_le_pow_right (by decide) (by omega)))
theorem cnt_pos {left n : Nat} (h : left < 2 ^ n) (hc : cnt left n ≠ 0) : left ≠ 0 := by
  rintro rfl
  apply hc
  have : ∀ n, cnt 0 n = 0 := by
    intro n
    induction n with
    | zero => rfl
    | succ n ih => rw [cnt, ih, Nat.zero_testBit]; rfl
  exact this n
/-- What is below a, as a set. -/
def blS (l : List Int) (a : Nat) : Nat := ofP (blB (rowsF l) a) l.length
theorem blS_bit {l : List Int} {a b : Nat} : (blS l a).testBit b = true ↔ b < l.length ∧ (rowsF l b).testBit a = true ∧ (rowsF l a).testBit b = false := by
  unfold blS blB
  rw [testBit_ofP]
  simp
theorem min_ex {l : List Int} (hP : Pol (rowsF l) l.length) {left : Nat} : ∀ (m a : Nat), blS l a ≤ m → a < l.length → left.testBit a = true → ∃ b, b < l.length ∧ left.testBit b = true ∧ Min l left b
  | m, a, hm, ha, hl => by
    by_cases h : Min l left a
    · exact ⟨a, ha, hl, h⟩
    · unfold Min at h
      simp only [Classical.not_forall] at h
      obtain ⟨b, hb, h1, h2, h3⟩ := h
      have h3' : left.testBit b = true := by simpa using h3
      have hlt : blS l b < blS l a := by
        have hsub : blS l b &&& blS l a = blS l b := and_self_iff.2 fun d hd => by
          obtain ⟨hdn, h4, h5⟩ := blS_bit.1 hd
          refine blS_bit.2 ⟨hdn, (hP d hdn).2 b hb h4 a h1, ?_⟩
          cases h6 : (rowsF l a).testBit d with
          | false => rfl
          | true =>
            have := (hP a ha).2 d hdn h6 b h4
            rw [h2] at this
            cases this
        have hle : blS l b ≤ blS l a := by rw [← hsub]; exact Nat.and_le_right
        have hne : blS l b ≠ blS l a := fun e => by
          have h7 := blS_bit.2 ⟨hb, h1, h2⟩
          rw [← e] at h7
          have := (blS_bit.1 h7).2.2
          rw [(hP b hb).1] at this
          cases this
        omega
      match m, hm with
      | 0, hm => omega
      | m + 1, hm => exact min_ex hP m b (by omega) hb h3'
theorem least_ex {P : Nat → Prop} : (∃ a, P a) → ∃ a, P a ∧ ∀ b, b < a → ¬ P b := by
  rintro ⟨n, hn⟩
  induction n using Nat.strongRecOn with
  | ind n ih =>
    by_cases h : ∃ m, m < n ∧ P m
    · obtain ⟨m, hm, hpm⟩ := h
      exact ih m hm hpm
    · exact ⟨n, hn, fun b hb hpb => h ⟨b, hb, hpb⟩⟩
theorem first_ex {l : List Int} (hP : Pol (rowsF l) l.length) {left : Nat} (hl : left < 2 ^ l.length) (h0 : left ≠ 0) : ∃ a, a < l.length ∧ left.testBit a = true ∧ Min l left a ∧ ∀ b, b < a → left.testBit b = true → ¬ Min l left b := by
  have h1 : ∃ a, a < l.length ∧ left.testBit a = true ∧ Min l left a := by
    obtain ⟨i, hi⟩ := Nat.exists_testBit_of_ne_zero h0
    exact min_ex hP _ i (Nat.le_refl _) (bit_lt hl hi) hi
  obtain ⟨a, ⟨h2, h3, h4⟩, h5⟩ := least_ex h1
  exact ⟨a, h2, h3, h4, fun b hb hlb hm => h5 b hb ⟨by omega, hlb, hm⟩⟩
/-! ### the two tests -/
section
variable {l : List Int} (h : okUb l = true) (hs : shp l = 0)
include h hs
omit h in
theorem testL {left a : Nat} (ha : a < l.length) (hl : left < 2 ^ l.length) : bits .and .u64 (bits .andNot .u64 ((rowsF (turnL l) a : Nat) : Int) ((clsA l a : Nat) : Int)) (left : Int) = 0 ↔ Min l left a := by
  have h16 := (shp_zero hs).1
  have hta : rowsF (turnL l) a < 2 ^ l.length := by rw [turnL_rows ha]; exact turnK_n _ _ _
  have hta64 := pow64 (by omega) hta
  have hca64 := pow64 (by omega) (clsA_ltn l a)
  rw [andNot_u64 hta64 hca64, and_u64 (andNot_lt hta64) (pow64 (by omega) hl)]
  have e : ((((rowsF (turnL l) a) &&& (18446744073709551615 - clsA l a)) &&& left : Nat) : Int) = 0 ↔ ((rowsF (turnL l) a) &&& (18446744073709551615 - clsA l a)) &&& left = 0 := by omega
  rw [e]
  constructor
  · intro hz b hb h1 h2
    have hz1 : (((rowsF (turnL l) a) &&& (18446744073709551615 - clsA l a)) &&& left).testBit b = false := by rw [hz]; exact Nat.zero_testBit b
    rw [Nat.testBit_and, Nat.testBit_and, turnL_bit ha, decide_eq_true hb, h1, not_bit hca64, decide_eq_true (show b < 64 by omega)] at hz1
    have hc : (clsA l a).testBit b = false := by
      cases hcb : (clsA l a).testBit b with
      | false => rfl
      | true =>
        have := (clsA_bit.1 hcb).2.1
        rw [h2] at this
        cases this
    rw [hc] at hz1
    simpa using hz1
  · intro hM
    apply Nat.eq_of_testBit_eq
    intro b
    rw [Nat.zero_testBit]
    cases hx : (((rowsF (turnL l) a) &&& (18446744073709551615 - clsA l a)) &&& left).testBit b with
    | false => rfl
    | true =>
      rw [Nat.testBit_and, Bool.and_eq_true, lack_bit hca64, turnL_bit ha, Bool.and_eq_true, decide_eq_true_iff] at hx
      obtain ⟨⟨⟨hb, h1⟩, _, h2⟩, h3⟩ := hx
      have h4 : (rowsF l a).testBit b = false := by
        cases h5 : (rowsF l a).testBit b with
        | false => rfl
        | true =>
          rw [clsA_bit.2 ⟨hb, h5, h1⟩] at h2
          cases h2
      rw [hM b hb h1 h4] at h3
      cases h3
omit h in
theorem testR {left seen a : Nat} (hsn : seen < 2 ^ l.length) (hc : ∀ b, b < l.length → seen.testBit b = !left.testBit b) : bits .andNot .u64 ((blS l a : Nat) : Int) (seen : Int) = 0 ↔ Min l left a := by
  have h16 := (shp_zero hs).1
  have hbl : blS l a < 2 ^ 64 := pow64 (by omega) (ofP_lt _ _)
  rw [sub_iff hbl (pow64 (by omega) hsn)]
  constructor
  · intro hz b hb h1 h2
    have := hz b (blS_bit.2 ⟨hb, h1, h2⟩)
    rw [hc b hb] at this
    simpa using this
  · intro hM b hb
    obtain ⟨hbn, h1, h2⟩ := blS_bit.1 hb
    rw [hc b hbn, hM b hbn h1 h2]
    rfl
/-! ### the two searches -/
theorem ord_l1 {left a : Nat} (hl : left < 2 ^ l.length) (ha : a < l.length) (hla : left.testBit a = true) (hM : Min l left a) (hf : ∀ b, b < a → left.testBit b = true → ¬ Min l left b) {out : List Int} (hout : out.length ≤ 100) {r : List Int × Int}
    (hn : Ev (fun k => lattice_Order.l0 k l (turnL l) (out ++ [(a : Int)]) ((less left a : Nat) : Int)) r) :
    ∀ (d i : Nat), (pfx left a).length - i = d → i ≤ (pfx left a).length → Ev (fun k => lattice_Order.l1 k l (turnL l) out (left : Int) (vals (pfx left 64)) ((vals (pfx left 64)).length : Int) (i : Int)) r := by
  have ha64 : a < 64 := by have := (shp_zero hs).1; omega
  intro d i hd hi
  have h16 := (shp_zero hs).1
  have htl := turnL_len l
  have htok : okU (turnL l) := okU_of (turnL_ok (by omega))
  have hl64 : left < 2 ^ 64 := pow64 (by omega) hl
  have hp1 : pfx left (a + 1) = pfx left a ++ [⟨a, ha64⟩] := pfx_yes (by omega) hla
  obtain ⟨t, ht⟩ := pfx_to left (show a + 1 ≤ 64 by omega)
  rw [hp1] at ht
  have hlen : (pfx left 64).length ≤ 64 := pfx_length left 64
  have hlen2 : (pfx left 64).length = (pfx left a).length + 1 + t.length := by rw [← ht]; simp; omega
  have hvl := vals_len (pfx left 64)
  have step : ∀ (x : Nat), x < l.length → ∀ i, i < (vals (pfx left 64)).length → rd (vals (pfx left 64)) (i : Int) = (x : Int) → ∀ k, lattice_Order.l1 (k + 1) l (turnL l) out (left : Int) (vals (pfx left 64)) ((vals (pfx left 64)).length : Int) (i : Int) = if (bits .and .u64 (bits .andNot .u64 ((rowsF (turnL l) x : Nat) : Int) ((clsA l x : Nat) : Int)) (left : Int)) = 0 then lattice_Order.l0 k l (turnL l) (out ++ [(x : Int)]) ((less left x : Nat) : Int) else lattice_Order.l1 k l (turnL l) out (left : Int) (vals (pfx left 64)) ((vals (pfx left 64)).length : Int) ((i + 1 : Nat) : Int) := by
    intro x hx i hi hrd k
    have c1 : (0 : Int) ≤ (x : Int) := by omega
    have c2 : (x : Int) < ((turnL l).length : Int) := by omega
    have c3 : out.length < 17592186044416 := by omega
    have hcf : lattice_policy_class.f l (x : Int) = some ((clsA l x : Nat) : Int) := by
      unfold lattice_policy_class.f
      rw [if_pos ⟨h, by omega, by omega, by omega⟩, Int.toNat_natCast]
    have e2 : bits .andNot .u64 (left : Int) (shl .u64 1 (x : Int)) = ((less left x : Nat) : Int) := by
      rw [shl_one' (by omega), andNot_u64 hl64 (Nat.pow_lt_pow_right (by decide) (by omega))]
      rfl
    simp only [lattice_Order.l1]
    rw [if_pos (by omega), if_pos (by omega), if_pos (by omega), hrd, rd_rows htok (by omega), hcf, e2, w64_inc (by omega)]
    simp only [if_pos c1, if_pos c2, if_pos c3, Option.bind_some]
  induction d generalizing i with
  | zero =>
    obtain rfl : i = (pfx left a).length := by omega
    have hrd : rd (vals (pfx left 64)) (((pfx left a).length : Nat) : Int) = (a : Int) := by
      rw [rd_vals (by omega)]
      have : (pfx left 64)[(pfx left a).length]'(by omega) = ⟨a, ha64⟩ := by
        have e : ((pfx left a ++ [(⟨a, ha64⟩ : Fin 64)]) ++ t)[(pfx left a).length]? = some ⟨a, ha64⟩ := by simp
        rw [ht] at e
        exact (List.getElem?_eq_some_iff.1 e).2
      rw [this]
    refine Ev.step (step a ha _ (by omega) hrd) ?_
    exact Ev.congr (fun k => if_pos ((testL hs ha hl).2 hM)) hn
  | succ d ih =>
    have hil : i < (pfx left a).length := by omega
    obtain ⟨x, hx⟩ : ∃ x, x = (pfx left a)[i] := ⟨_, rfl⟩
    have hxm : x ∈ pfx left a := by rw [hx]; exact List.getElem_mem hil
    have hxb := (pfx_mem _ _).1 hxm
    have hrd : rd (vals (pfx left 64)) (i : Int) = ((x.val : Nat) : Int) := by
      rw [rd_vals (by omega)]
      have : (pfx left 64)[i]'(by omega) = x := by
        have e : ((pfx left a ++ [(⟨a, ha64⟩ : Fin 64)]) ++ t)[i]? = some x := by
          rw [List.append_assoc, List.getElem?_append_left hil, List.getElem?_eq_getElem hil, hx]
        rw [ht] at e
        exact (List.getElem?_eq_some_iff.1 e).2
      rw [this]
    have hxn : x.val < l.length := by omega
    refine Ev.step (step x.val hxn i (by omega) hrd) ?_
    refine Ev.congr (fun k => if_neg (fun e => hf x.val hxb.1 hxb.2 ((testL hs hxn hl).1 e))) ?_
    exact ih (i + 1) (by omega) (by omega)
theorem rord_l1 {left seen a : Nat} (hl : left < 2 ^ l.length) (hsn : seen < 2 ^ l.length) (hc : ∀ b, b < l.length → seen.testBit b = !left.testBit b) (ha : a < l.length) (hla : left.testBit a = true) (hM : Min l left a) (hf : ∀ b, b < a → left.testBit b = true → ¬ Min l left b) {out : List Int} (hout : out.length ≤ 100) {r : List Int × Int}
    (hn : Ev (fun k => rampartref02_Order.l0 k l (out ++ [(a : Int)]) ((seen ||| 2 ^ a : Nat) : Int)) r) :
    ∀ (d i : Nat), a - i = d → i ≤ a → Ev (fun k => rampartref02_Order.l1 k l out (seen : Int) (-1) (i : Int)) r := by
  intro d i hd hi
  have h16 := (shp_zero hs).1
  have hlU := okU_of h
  have hs64 : seen < 2 ^ 64 := pow64 (by omega) hsn
  have step : ∀ i, i < l.length → ∀ k, rampartref02_Order.l1 (k + 1) l out (seen : Int) (-1) (i : Int) = (rampartref01_Has.f k (seen : Int) (i : Int)).bind fun t584 => (if t584 = true then (rampartref02_Order.l1 k l out (seen : Int) (-1) ((i + 1 : Nat) : Int)) else ((rampartref02_below.f k l (i : Int)).bind fun t585 => (if (bits .andNot .u64 t585 (seen : Int)) = 0 then (rampartref02_Order.l1 k l out (seen : Int) (i : Int) ((i + 1 : Nat) : Int)) else (rampartref02_Order.l1 k l out (seen : Int) (-1) ((i + 1 : Nat) : Int))))) := by
    intro i hi k
    simp only [rampartref02_Order.l1]
    rw [if_pos (by omega), if_pos (by omega), w64_inc (by omega)]
  have hbel : ∀ i, i < l.length → Ev (fun k => rampartref02_below.f k l (i : Int)) ((blS l i : Nat) : Int) := fun i hi => rbelow_l0 hlU (by omega) hi l.length 0 (by omega) (by omega)
  induction d generalizing i with
  | zero =>
    obtain rfl : i = a := by omega
    refine Ev.step (step i ha) (Ev.bind (has_nat hs64 (by omega)) ?_)
    rw [hc i ha, hla]
    refine Ev.congr (fun k => if_neg (by simp)) (Ev.bind (hbel i ha) ?_)
    refine Ev.congr (fun k => if_pos ((testR hs hsn hc).2 hM)) ?_
    have c1 : (0 : Int) ≤ (i : Int) := by omega
    have c2 : out.length < 17592186044416 := by omega
    have c3 : IntKind.u64.wrap (i : Int) = (i : Int) := wu64 (by omega) (by omega)
    have c4 : bits .or .u64 (seen : Int) ((2 ^ i : Nat) : Int) = ((seen ||| 2 ^ i : Nat) : Int) := or_u64 hs64 (Nat.pow_lt_pow_right (by decide) (by omega))
    refine Ev.step (fun k => ?_) hn
    simp only [rampartref02_Order.l1]
    by_cases hin : ((i + 1 : Nat) : Int) < (l.length : Int)
    · rw [if_pos hin, if_neg (by omega), if_pos c2, c3, if_pos c1, shl_one' (by omega), c4]
    · rw [if_neg hin, if_neg (by omega), if_pos c2, c3, if_pos c1, shl_one' (by omega), c4]
  | succ d ih =>
    have hil : i < l.length := by omega
    refine Ev.step (step i hil) (Ev.bind (has_nat hs64 (by omega)) ?_)
    cases hsi : seen.testBit i with
    | true => exact Ev.congr (fun k => if_pos rfl) (ih (i + 1) (by omega) (by omega))
    | false =>
      have hli : left.testBit i = true := by
        have := hc i hil
        rw [hsi] at this
        simpa using this
      refine Ev.congr (fun k => if_neg (by simp)) (Ev.bind (hbel i hil) ?_)
      exact Ev.congr (fun k => if_neg (fun e => hf i (by omega) hli ((testR hs hsn hc).1 e))) (ih (i + 1) (by omega) (by omega))
end
/-- The labels that are left, in order. -/
inductive Ord (l : List Int) : Nat → List Nat → Prop
  | nil : Ord l 0 []
  | cons {left a : Nat} {L : List Nat} : a < l.length → left.testBit a = true → Min l left a → Ord l (less left a) L → Ord l left (a :: L)
theorem ord_both {l : List Int} (h : okUb l = true) (hs : shp l = 0) (hP : Pol (rowsF l) l.length) : ∀ (m left : Nat), left < 2 ^ l.length → cnt left l.length = m → ∃ L : List Nat, Ord l left L ∧ L.length = m ∧
    ∀ out : List Int, out.length + m = l.length → Ev (fun k => lattice_Order.l0 k l (turnL l) out (left : Int)) (out ++ L.map (fun a : Nat => (a : Int)), 0) ∧
      ∀ seen : Nat, seen < 2 ^ l.length → (∀ b, b < l.length → seen.testBit b = !left.testBit b) → Ev (fun k => rampartref02_Order.l0 k l out (seen : Int)) (out ++ L.map (fun a : Nat => (a : Int)), 0)
  | 0, left, hl, hc => by
    obtain rfl := left_zero hl hc
    refine ⟨[], Ord.nil, rfl, fun out hout => ⟨?_, fun seen _ _ => ?_⟩⟩
    · rw [List.map_nil, List.append_nil]
      refine Ev.step (f := fun _ => some (out, (0 : Int))) (fun k => ?_) (Ev.now _)
      simp only [lattice_Order.l0]
      rw [if_pos (by rfl)]
    · rw [List.map_nil, List.append_nil]
      refine Ev.step (f := fun _ => some (out, (0 : Int))) (fun k => ?_) (Ev.now _)
      simp only [rampartref02_Order.l0]
      rw [if_neg (by omega)]
  | m + 1, left, hl, hc => by
    have h16 := (shp_zero hs).1
    have h0 : left ≠ 0 := cnt_pos hl (by omega)
    have hl64 : left < 2 ^ 64 := pow64 (by omega) hl
    obtain ⟨a, ha, hla, hM, hf⟩ := first_ex hP hl h0
    have hcl := cnt_less (show a < 64 by omega) hl64 hla l.length ha
    obtain ⟨L, hO, hLl, hL⟩ := ord_both h hs hP m (less left a) (less_lt hl) (by omega)
    refine ⟨a :: L, Ord.cons ha hla hM hO, by rw [List.length_cons, hLl], fun out hout => ?_⟩
    obtain ⟨e1, e2⟩ := hL (out ++ [(a : Int)]) (by rw [List.length_append, List.length_singleton]; omega)
    have eL : out ++ (a :: L).map (fun a : Nat => (a : Int)) = (out ++ [(a : Int)]) ++ L.map (fun a : Nat => (a : Int)) := by rw [List.map_cons, List.append_assoc]; rfl
    rw [eL]
    refine ⟨?_, fun seen hsn hcm => ?_⟩
    · have := ord_l1 h hs hl ha hla hM hf (by omega) e1 _ 0 rfl (by omega)
      have hbl : bits_List.f (left : Int) = some (vals (pfx left 64)) := by
        unfold bits_List.f
        have h1 : uOk (left : Int) = true := by unfold uOk; rw [decide_eq_true (by omega), decide_eq_true (by omega)]; rfl
        rw [if_pos h1, Int.toNat_natCast]
      refine Ev.step (fun k => ?_) this
      simp only [lattice_Order.l0]
      rw [if_neg (by omega), hbl, Option.bind_some]
      rfl
    · have e3 := e2 (seen ||| 2 ^ a) (Nat.or_lt_two_pow hsn (Nat.pow_lt_pow_right (by decide) ha)) (fun b hb => by
        rw [Nat.testBit_or, Nat.testBit_two_pow, less_bit (by omega) hl64, hcm b hb]
        by_cases hab : a = b
        · rw [decide_eq_true hab]; simp
        · rw [decide_eq_false hab]; simp)
      have := rord_l1 h hs hl hsn hcm ha hla hM hf (by omega) e3 _ 0 rfl (by omega)
      refine Ev.step (fun k => ?_) this
      simp only [rampartref02_Order.l0]
      rw [if_pos (by omega)]
      rfl
theorem full_start {n : Nat} (hn : n ≤ 16) : IntKind.u64.wrap ((shl .u64 1 (n : Int)) - 1) = ((2 ^ n - 1 : Nat) : Int) := by
  have h1 : 1 ≤ 2 ^ n := Nat.one_le_two_pow
  have h2 : 2 ^ n ≤ 2 ^ 16 := Nat.pow_le_pow_right (by decide) hn
  rw [shl_one' (by omega)]
  have e : (((2 ^ n : Nat) : Int) - 1) = ((2 ^ n - 1 : Nat) : Int) := by omega
  rw [e]
  exact wu64 (by omega) (by omega)
/-- The order, and that it is one. -/
theorem order_ev {l : List Int} (h : okUb l = true) : ∃ v : List Int × Int, Ev (fun k => lattice_Order.f k l) v ∧ Ev (fun k => rampartref02_Order.f k l) v ∧ v.1.length < 1000000 ∧ (v.2 ≠ 0 → v.1 = []) ∧ (v.2 = 0 → shp l = 0 ∧ ∃ L, Ord l (2 ^ l.length - 1) L ∧ L.length = l.length ∧ v.1 = L.map (fun a : Nat => (a : Int))) := by
  unfold lattice_Order.f rampartref02_Order.f
  simp only [chk_b h, Option.bind_some]
  by_cases h0 : chk l = 0
  · obtain ⟨hs, hP⟩ := chk_zero h0
    have h16 := (shp_zero hs).1
    have hpw := Nat.two_pow_pos l.length
    obtain ⟨L, hO, hLl, hL⟩ := ord_both h hs hP l.length (2 ^ l.length - 1) (by omega) (cnt_full _ _ (Nat.le_refl _))
    obtain ⟨e1, e2⟩ := hL [] (by simp)
    rw [List.nil_append] at e1 e2
    refine ⟨(L.map (fun a : Nat => (a : Int)), 0), ?_, ?_, by simp; omega, fun hne => absurd rfl hne, fun _ => ⟨hs, L, hO, hLl, rfl⟩⟩
    · refine Ev.congr (fun k => if_pos h0) ?_
      have ht : lattice_policy_turned.f l = some (turnL l) := by
        unfold lattice_policy_turned.f
        rw [turn_b h, turnR_ok (shp_zero hs).2.2.1]
        rfl
      rw [ht, full_start h16]
      exact e1
    · have c1 := chk_ev h
      rw [h0] at c1
      refine Ev.bind c1 (Ev.congr (fun k => if_pos rfl) ?_)
      exact e2 0 hpw (fun b hb => by rw [Nat.zero_testBit, Nat.testBit_two_pow_sub_one, decide_eq_true hb]; rfl)
  · refine ⟨([], chk l), Ev.congr (fun k => if_neg h0) (Ev.now _), Ev.bind (chk_ev h) (Ev.congr (fun k => if_neg h0) (Ev.now _)), by simp, fun _ => rfl, fun e => absurd e h0⟩
end Go.Proofs.Ytlbjcmiegbejdaa.Q
