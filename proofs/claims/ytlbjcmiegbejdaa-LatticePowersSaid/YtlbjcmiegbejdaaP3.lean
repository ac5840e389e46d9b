/- Layer 2, plain: which flows are a policy; joins and meets, by the document. -/
import Derived.Test.YtlbjcmiegbejdaaQx13
import Derived.Test.YtlbjcmiegbejdaaP2
namespace Go.Proofs.Ytlbjcmiegbejdaa.Q
open Go.RowKit Go.Proofs.YtlbjcmiegbejdaaW.PrintWords Go.Proofs.YtlbjcmiegbejdaaW.PrintMore Go.Proofs.YtlbjcmiegbejdaaW.PrintLast Go.Proofs.Ytlbjcmiegbejdaa.Bm
set_option linter.unusedVariables false
set_option linter.unusedSimpArgs false
theorem awake_ev : Ev (fun k => rampartlaw02_awake.f k) true := Ev.of (fun k => rampartlaw02_awake.mono k) (k := 60) (by kernel_rfl)
/-- Label a stands in its own row, and its row holds the rows of those that it flows to. -/
def PolAt (R : Nat → Nat) (n a : Nat) : Prop := (R a).testBit a = true ∧ ∀ b, b < n → (R a).testBit b = true → ∀ c, (R b).testBit c = true → (R a).testBit c = true
def Pol (R : Nat → Nat) (n : Nat) : Prop := ∀ a, a < n → PolAt R n a
theorem sub_iff {x y : Nat} (hx : x < 2 ^ 64) (hy : y < 2 ^ 64) : bits .andNot .u64 (x : Int) (y : Int) = 0 ↔ ∀ c, x.testBit c = true → y.testBit c = true := by
  rw [andNot_u64 hx hy]
  have h1 : (((x &&& (18446744073709551615 - y) : Nat) : Int) = 0) ↔ x &&& (18446744073709551615 - y) = 0 := by omega
  rw [h1, andNot_zero hx hy]
  constructor
  · intro h c hc
    have h2 : (x &&& y).testBit c = true := by rw [h]; exact hc
    rw [Nat.testBit_and, Bool.and_eq_true] at h2
    exact h2.2
  · intro h
    apply Nat.eq_of_testBit_eq
    intro c
    rw [Nat.testBit_and]
    cases hc : x.testBit c with
    | false => rfl
    | true => rw [h c hc]; rfl
/-! ### the shape -/
def shp (l : List Int) : Int := if 16 < l.length then 3 else if l.length = 0 then 1 else (ofR l).2.2
theorem shape_b {l : List Int} (h : okUb l = true) : lattice_shape.f l = some (shp l) := by
  unfold lattice_shape.f shp
  by_cases h1 : 16 < l.length
  · rw [if_pos (by omega), if_pos h1]
  · rw [if_neg (by omega), if_neg h1]
    by_cases h2 : l.length = 0
    · rw [if_pos (by omega), if_pos h2]
    · rw [if_neg (by omega), if_neg h2, check_b h]
      rfl
theorem shape_ev {l : List Int} (h : okUb l = true) : Ev (fun k => rampartref02_shape.f k l) (shp l) := by
  unfold rampartref02_shape.f shp
  by_cases h1 : 16 < l.length
  · rw [if_pos h1]
    exact Ev.congr (fun k => if_pos (by omega)) (Ev.now _)
  · rw [if_neg h1]
    refine Ev.congr (fun k => if_neg (by omega)) ?_
    by_cases h2 : l.length = 0
    · rw [if_pos h2]
      exact Ev.congr (fun k => if_pos (by omega)) (Ev.now _)
    · rw [if_neg h2]
      refine Ev.congr (fun k => if_neg (by omega)) ?_
      exact Ev.bind (check_ev (okU_of h)) (Ev.now _)
theorem shp_zero {l : List Int} (h : shp l = 0) : l.length ≤ 16 ∧ 0 < l.length ∧ (ofR l).2.2 = 0 ∧ ∀ i, i < l.length → rowsF l i < 2 ^ l.length := by
  unfold shp at h
  split at h
  · cases h
  · next h1 =>
    split at h
    · cases h
    · next h2 =>
      have := ofR_len h
      exact ⟨by omega, by omega, h, okRel_iff.1 this.2⟩
/-! ### is it a policy? -/
section
variable {l : List Int} (hl : okU l) (h64 : l.length ≤ 64)
include hl h64
theorem chk_l1 {a : Nat} (ha : a < l.length) {r : Int} (h : (∀ b, b < l.length → (rowsF l a).testBit b = true → ∀ c, (rowsF l b).testBit c = true → (rowsF l a).testBit c = true) → Ev (fun k => rampartref02_Check.l0 k l ((a + 1 : Nat) : Int)) r) (h' : (∃ b, b < l.length ∧ (rowsF l a).testBit b = true ∧ ¬ ∀ c, (rowsF l b).testBit c = true → (rowsF l a).testBit c = true) → r = 20) :
    ∀ (d i : Nat), l.length - i = d → i ≤ l.length → (∀ b, b < i → (rowsF l a).testBit b = true → ∀ c, (rowsF l b).testBit c = true → (rowsF l a).testBit c = true) → Ev (fun k => rampartref02_Check.l1 k l (a : Int) (i : Int)) r
  | 0, i, hd, hi, hg => by
    obtain rfl : i = l.length := by omega
    refine Ev.step (fun k => ?_) (h hg)
    simp only [rampartref02_Check.l1]
    rw [if_neg (by omega), w64_inc (by omega)]
  | d + 1, i, hd, hi, hg => by
    have ih := chk_l1 ha h h' d (i + 1) (by omega) (by omega)
    have hai := (okU_at hl ha).2
    have hbi := (okU_at hl (show i < l.length by omega)).2
    refine Ev.step (f := fun k => (rampartref01_Has.f k ((rowsF l a : Nat) : Int) (i : Int)).bind fun t => if t = true then (if (bits .andNot .u64 ((rowsF l i : Nat) : Int) ((rowsF l a : Nat) : Int)) = 0 then rampartref02_Check.l1 k l (a : Int) ((i + 1 : Nat) : Int) else some 20) else rampartref02_Check.l1 k l (a : Int) ((i + 1 : Nat) : Int)) (fun k => ?_) (Ev.bind (has_nat hai (by omega)) ?_)
    · have c1 : (0 : Int) ≤ (i : Int) := by omega
      simp only [rampartref02_Check.l1]
      rw [if_pos (by omega), if_pos (by omega), if_pos (by omega), rd_rows hl ha, rd_rows hl (by omega), w64_inc (by omega)]
      simp only [if_pos c1]
    · cases hb : (rowsF l a).testBit i with
      | false =>
        refine Ev.congr (fun k => if_neg (by simp)) (ih ?_)
        intro b hbi' hb'
        rcases Nat.lt_succ_iff_lt_or_eq.1 hbi' with h1 | rfl
        · exact hg b h1 hb'
        · rw [hb] at hb'; cases hb'
      | true =>
        refine Ev.congr (fun k => if_pos rfl) ?_
        by_cases hs : bits .andNot .u64 ((rowsF l i : Nat) : Int) ((rowsF l a : Nat) : Int) = 0
        · refine Ev.congr (fun k => if_pos hs) (ih ?_)
          intro b hbi' hb'
          rcases Nat.lt_succ_iff_lt_or_eq.1 hbi' with h1 | rfl
          · exact hg b h1 hb'
          · exact (sub_iff hbi hai).1 hs
        · rw [h' ⟨i, by omega, hb, fun h1 => hs ((sub_iff hbi hai).2 h1)⟩]
          exact Ev.congr (fun k => if_neg hs) (Ev.now _)
theorem chk_l0 {r : Int} (h : Pol (rowsF l) l.length → r = 0) (h' : ¬ Pol (rowsF l) l.length → r = 20) :
    ∀ (d i : Nat), l.length - i = d → i ≤ l.length → (∀ a, a < i → PolAt (rowsF l) l.length a) → Ev (fun k => rampartref02_Check.l0 k l (i : Int)) r
  | 0, i, hd, hi, hg => by
    obtain rfl : i = l.length := by omega
    rw [h hg]
    refine Ev.step (f := fun _ => some (0 : Int)) (fun k => ?_) (Ev.now _)
    simp only [rampartref02_Check.l0]
    rw [if_neg (by omega)]
  | d + 1, i, hd, hi, hg => by
    have ih := chk_l0 h h' d (i + 1) (by omega) (by omega)
    have hai := (okU_at hl (show i < l.length by omega)).2
    refine Ev.step (f := fun k => (rampartref01_Has.f k ((rowsF l i : Nat) : Int) (i : Int)).bind fun t => if t = true then rampartref02_Check.l1 k l (i : Int) 0 else some 20) (fun k => ?_) (Ev.bind (has_nat hai (by omega)) ?_)
    · have c1 : (0 : Int) ≤ (i : Int) := by omega
      simp only [rampartref02_Check.l0]
      rw [if_pos (by omega), rd_rows hl (by omega)]
      simp only [if_pos c1]
    · cases hb : (rowsF l i).testBit i with
      | false =>
        rw [h' (fun hP => by have := (hP i (by omega)).1; rw [hb] at this; cases this)]
        exact Ev.congr (fun k => if_neg (by simp)) (Ev.now _)
      | true =>
        refine Ev.congr (fun k => if_pos rfl) ?_
        refine chk_l1 hl h64 (a := i) (by omega) (fun ht => ih ?_) ?_ l.length 0 (by omega) (by omega) (fun b hb0 => absurd hb0 (by omega))
        · intro a hai'
          rcases Nat.lt_succ_iff_lt_or_eq.1 hai' with h1 | rfl
          · exact hg a h1
          · exact ⟨hb, ht⟩
        · rintro ⟨b, hb1, hb2, hb3⟩
          exact h' (fun hP => hb3 ((hP i (by omega)).2 b hb1 hb2))
end
open Classical in
/-- Which flows are a policy. -/
noncomputable def chk (l : List Int) : Int := if shp l = 0 then (if Pol (rowsF l) l.length then 0 else 20) else shp l
theorem chk_ev {l : List Int} (h : okUb l = true) : Ev (fun k => rampartref02_Check.f k l) (chk l) := by
  unfold rampartref02_Check.f chk
  refine Ev.bind (shape_ev h) ?_
  by_cases hs : shp l = 0
  · rw [if_pos hs]
    refine Ev.congr (fun k => if_pos hs) ?_
    exact chk_l0 (okU_of h) (by have := (shp_zero hs).1; omega) (fun hP => if_pos hP) (fun hP => if_neg hP) l.length 0 (by omega) (by omega) (fun a ha => absurd ha (by omega))
  · rw [if_neg hs]
    exact Ev.congr (fun k => if_neg hs) (Ev.now _)
/-! ### what flows lack -/
theorem lack_bit {c r i : Nat} (hr : r < 2 ^ 64) : (c &&& (18446744073709551615 - r)).testBit i = true ↔ c.testBit i = true ∧ i < 64 ∧ r.testBit i = false := by
  rw [Nat.testBit_and, not_bit hr]
  simp
theorem lackRow_nil {a d : Nat} : lackRow a d = [] ↔ ∀ i, i < 64 → d.testBit i = false := by
  unfold lackRow
  rw [List.map_eq_nil_iff, List.eq_nil_iff_forall_not_mem]
  constructor
  · intro h i hi
    have := h ⟨i, hi⟩
    rw [pfx_mem] at this
    cases hb : d.testBit i with
    | false => rfl
    | true => exact absurd ⟨hi, hb⟩ this
  · intro h x hx
    have h1 := (pfx_mem _ _).1 hx
    have h2 := h x.val x.2
    rw [h1.2] at h2
    cases h2
theorem mem_labs {m : Nat} (x : Fin m) : x ∈ labs m m := all_labs x
theorem lackTo_nil {n : Nat} {C R : Nat → Nat} (hR : ∀ i, R i < 2 ^ 64) : lackTo C R (labs n n) = [] ↔ ∀ a, a < n → ∀ b, b < 64 → (C a).testBit b = true → (R a).testBit b = true := by
  unfold lackTo
  rw [List.flatMap_eq_nil_iff]
  constructor
  · intro h a ha b hb hc
    have h1 := lackRow_nil.1 (h ⟨a, ha⟩ (mem_labs _)) b hb
    cases hr : (R a).testBit b with
    | true => rfl
    | false =>
      have h2 := (lack_bit (c := C a) (hR a)).2 ⟨hc, hb, hr⟩
      rw [h1] at h2
      cases h2
  · intro h x _
    rw [lackRow_nil]
    intro i hi
    cases hb : (C x.val &&& (18446744073709551615 - R x.val)).testBit i with
    | false => rfl
    | true =>
      obtain ⟨h1, h2, h3⟩ := (lack_bit (hR x.val)).1 hb
      have := h x.val x.2 i h2 h1
      rw [h3] at this
      cases this
theorem pol_lack {l : List Int} (h : okUb l = true) (hs : shp l = 0) : lackTo (closureF l) (rowsF l) (labs l.length l.length) = [] ↔ Pol (rowsF l) l.length := by
  obtain ⟨h16, h0, he, hn⟩ := shp_zero hs
  have hR := rowsF_lt (okU_of h)
  rw [lackTo_nil hR]
  have hCR : ∀ {a b : Nat}, a < l.length → (closureF l a).testBit b = true → b < l.length := by
    intro a b ha hb
    have h1 : closureF l a < 2 ^ l.length := by
      have key : ∀ c, c < 2 ^ l.length → Closed (rowsF l) l.length c → c.testBit a = true → ∀ k, (closureF l a).testBit k = true → c.testBit k = true := fun c _ hc hca k hk => T_in ha hk hc hca
      have hfull : Closed (rowsF l) l.length (2 ^ l.length - 1) := by
        intro i hi _ k hk
        rw [Nat.testBit_two_pow_sub_one]
        refine decide_eq_true ?_
        apply Nat.lt_of_not_le
        intro hle
        rw [Nat.testBit_lt_two_pow (Nat.lt_of_lt_of_le (hn i hi) (Nat.pow_le_pow_right (by decide) hle))] at hk
        cases hk
      have hin : (2 ^ l.length - 1).testBit a = true := by rw [Nat.testBit_two_pow_sub_one]; exact decide_eq_true ha
      apply Nat.lt_pow_two_of_testBit
      intro i hi
      cases hb : (closureF l a).testBit i with
      | false => rfl
      | true =>
        have := key _ (by have := Nat.two_pow_pos l.length; omega) hfull hin i hb
        rw [Nat.testBit_two_pow_sub_one] at this
        have := of_decide_eq_true this
        omega
    apply Nat.lt_of_not_le
    intro hle
    rw [Nat.testBit_lt_two_pow (Nat.lt_of_lt_of_le h1 (Nat.pow_le_pow_right (by decide) hle))] at hb
    cases hb
  constructor
  · intro hc a ha
    refine ⟨hc a ha a (by omega) (T_refl ha _), fun b hb hab c hbc => ?_⟩
    have h1 : (closureF l a).testBit c = true := T_closed ha b hb (T_base ha hab _) c hbc
    exact hc a ha c (by have := hCR ha h1; omega) h1
  · intro hP a ha b hb hab
    refine T_in ha hab ?_ (hP a ha).1
    intro i hi hai k hk
    exact (hP a ha).2 i hi hai k hk
theorem chk_b {l : List Int} (h : okUb l = true) : lattice_Check.f l = some (chk l) := by
  unfold lattice_Check.f lattice_Missing.f chk
  rw [if_pos h, shape_b h]
  by_cases hs : shp l = 0
  · simp only [Option.bind_some, if_pos hs]
    by_cases hP : Pol (rowsF l) l.length
    · rw [if_pos hP, (pol_lack h hs).2 hP]
      rfl
    · rw [if_neg hP]
      have h1 : lackTo (closureF l) (rowsF l) (labs l.length l.length) ≠ [] := fun e => hP ((pol_lack h hs).1 e)
      have h2 := List.length_pos_iff.2 h1
      rw [if_pos trivial, if_pos (by omega)]
  · simp only [Option.bind_some, if_neg hs]
theorem chk_zero {l : List Int} (h : chk l = 0) : shp l = 0 ∧ Pol (rowsF l) l.length := by
  unfold chk at h
  split at h
  · next hs =>
    split at h
    · next hP => exact ⟨hs, hP⟩
    · cases h
  · next hs => exact absurd h hs
/-! ### two labels that are asked about -/
/-! ### joins -/
section
variable {l : List Int} (hl : okU l) (h64 : l.length ≤ 64)
include hl h64
theorem joins_l0 {u : Nat} (hu : u < 2 ^ 64) : ∀ (d i : Nat), l.length - i = d → i ≤ l.length → Ev (fun k => rampartref02_joins.l0 k l (u : Int) ((jst (rowsF l) u (labs l.length i) : Nat) : Int) (i : Int)) ((jst (rowsF l) u (labs l.length l.length) : Nat) : Int)
  | 0, i, hd, hi => by
    obtain rfl : i = l.length := by omega
    refine Ev.step (f := fun _ => some ((jst (rowsF l) u (labs l.length l.length) : Nat) : Int)) (fun k => ?_) (Ev.now _)
    simp only [rampartref02_joins.l0]
    rw [if_neg (by omega)]
  | d + 1, i, hd, hi => by
    have hil : i < l.length := by omega
    have ih := joins_l0 hu d (i + 1) (by omega) (by omega)
    have hbi := (okU_at hl hil).2
    have hjl := jst_lt (rowsF l) u (labs l.length i) h64
    rw [labs_next hil] at ih
    unfold jst at ih
    rw [List.foldl_append] at ih
    refine Ev.step (f := fun k => (rampartref01_Has.f k (u : Int) (i : Int)).bind fun t => if t = true then (if (bits .andNot .u64 (u : Int) ((rowsF l i : Nat) : Int)) = 0 then rampartref02_joins.l0 k l (u : Int) ((jst (rowsF l) u (labs l.length i) ||| 2 ^ i : Nat) : Int) ((i + 1 : Nat) : Int) else rampartref02_joins.l0 k l (u : Int) ((jst (rowsF l) u (labs l.length i) : Nat) : Int) ((i + 1 : Nat) : Int)) else rampartref02_joins.l0 k l (u : Int) ((jst (rowsF l) u (labs l.length i) : Nat) : Int) ((i + 1 : Nat) : Int)) (fun k => ?_) (Ev.bind (has_nat hu (by omega)) ?_)
    · have c1 : (0 : Int) ≤ (i : Int) := by omega
      have c2 : IntKind.u64.wrap (i : Int) = (i : Int) := wu64 (by omega) (by omega)
      have c3 : bits .or .u64 ((jst (rowsF l) u (labs l.length i) : Nat) : Int) (shl .u64 1 (i : Int)) = ((jst (rowsF l) u (labs l.length i) ||| 2 ^ i : Nat) : Int) := by
        have e : shl .u64 1 (i : Int) = ((2 ^ i : Nat) : Int) := by
          have := wrap_pow (i := i) (by omega)
          simp only [shl, IntKind.bits, Int.toNat_natCast] at *
          rw [Int.one_mul]
          rw [Nat.min_eq_left (by omega)]
          exact this
        rw [e]
        exact or_u64 hjl (Nat.pow_lt_pow_right (by decide) (by omega))
      simp only [rampartref02_joins.l0]
      rw [if_pos (by omega), c2, rd_rows hl hil, w64_inc (by omega), c3]
      simp only [if_pos c1]
    · by_cases hc : u.testBit i = true ∧ u &&& rowsF l i = u
      · rw [List.foldl_cons, List.foldl_nil, if_pos hc] at ih
        rw [hc.1]
        refine Ev.congr (fun k => if_pos rfl) ?_
        have hz : bits .andNot .u64 (u : Int) ((rowsF l i : Nat) : Int) = 0 := by
          rw [andNot_u64 hu hbi, (andNot_zero hu hbi).2 hc.2]
          rfl
        exact Ev.congr (fun k => if_pos hz) ih
      · rw [List.foldl_cons, List.foldl_nil, if_neg hc] at ih
        cases hb : u.testBit i with
        | false => exact Ev.congr (fun k => if_neg (by simp)) ih
        | true =>
          refine Ev.congr (fun k => if_pos rfl) ?_
          have hz : ¬ bits .andNot .u64 (u : Int) ((rowsF l i : Nat) : Int) = 0 := by
            rw [andNot_u64 hu hbi]
            intro h
            exact hc ⟨hb, (andNot_zero hu hbi).1 (by omega)⟩
          exact Ev.congr (fun k => if_neg hz) ih
end
theorem joins_ev {l : List Int} (h : okUb l = true) (h64 : l.length ≤ 64) {a b : Int} (ha0 : 0 ≤ a) (ha : a < l.length) (hb0 : 0 ≤ b) (hb : b < l.length) : Ev (fun k => rampartref02_joins.f k l a b) (jnF l a b) := by
  obtain ⟨i, rfl⟩ := Int.eq_ofNat_of_zero_le ha0
  obtain ⟨j, rfl⟩ := Int.eq_ofNat_of_zero_le hb0
  have hl := okU_of h
  have hi : i < l.length := by omega
  have hj : j < l.length := by omega
  have hu : rowsF l i &&& rowsF l j < 2 ^ 64 := Nat.lt_of_le_of_lt Nat.and_le_left (okU_at hl hi).2
  have := joins_l0 hl h64 hu l.length 0 (by omega) (by omega)
  unfold rampartref02_joins.f
  refine Ev.congr (fun k => ?_) this
  rw [if_pos ha0, if_pos ha, if_pos hb0, if_pos hb, rd_rows hl hi, rd_rows hl hj, and_u64 (okU_at hl hi).2 (okU_at hl hj).2]
  rfl
theorem Joins_b {l : List Int} (h : okUb l = true) (a b : Int) : lattice_Joins.f l a b = some (bndV (askE l a b (chk l)) (jnF l a b), askE l a b (chk l)) := by
  unfold lattice_Joins.f
  rw [chk_b h]
  rfl
theorem turnR_ok {l : List Int} (hs : (ofR l).2.2 = 0) : turnR l = (turnL l, 0) := by
  unfold turnR turnL
  rw [if_pos hs]
theorem meets_ev {l : List Int} (h : okUb l = true) (hs : shp l = 0) {a b : Int} (ha0 : 0 ≤ a) (ha : a < l.length) (hb0 : 0 ≤ b) (hb : b < l.length) : Ev (fun k => rampartref02_meets.f k l a b) (jnF (turnL l) a b) := by
  unfold rampartref02_meets.f
  have h1 := turn_ev (okU_of h)
  have h16 := (shp_zero hs).1
  have hle := turnL_len l
  rw [turnR_ok (shp_zero hs).2.2.1] at h1
  refine Ev.bind h1 ?_
  refine Ev.bind (joins_ev (turnL_ok (by omega)) (by omega) ha0 (by omega) hb0 (by omega)) ?_
  exact Ev.now _
theorem Meets_b {l : List Int} (h : okUb l = true) (a b : Int) : lattice_Meets.f l a b = some (bndV (askE l a b (chk l)) (jnF (turnL l) a b), askE l a b (chk l)) := by
  unfold lattice_Meets.f
  rw [chk_b h]
  rfl
end Go.Proofs.Ytlbjcmiegbejdaa.Q
