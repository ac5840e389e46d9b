/- Layer 2: the joins of two labels. -/
import Derived.Test.YtlbjcmiegbejdaaL1
import Derived.Test.YtlbjcmiegbejdaaB9
import Derived.Test.YtlbjcmiegbejdaaV
import Derived.ControlIn
import Derived.Laws.BitsAllLaws
namespace Go.Proofs.Ytlbjcmiegbejdaa.Q
open Go.RowKit Go.Shelf
attribute [local go_sem] Oper.semAt_some
set_option linter.unusedVariables false
set_option linter.unusedSimpArgs false
open Go.Proofs.YtlbjcmiegbejdaaW.PrintWords Go.Proofs.YtlbjcmiegbejdaaW.PrintMore
theorem row_is {l : List Int} (h : okU l) {i : Nat} (hi : i < l.length) : rd l (i : Int) = ((rowsF l i : Nat) : Int) := by
  have h1 := (okU_at h hi).1
  unfold rd
  rw [Int.toNat_natCast, List.getD_eq_getElem?_getD, h1]
  rfl
/-- The joins so far: those of the labels that are above, and flow to all that is above. -/
def jst {m : Nat} (R : Nat → Nat) (u : Nat) (pre : List (Fin m)) : Nat := pre.foldl (fun o x => if u.testBit x.val = true ∧ u &&& R x.val = u then o ||| 2 ^ x.val else o) 0
theorem and_u64 {a b : Nat} (ha : a < 2 ^ 64) (hb : b < 2 ^ 64) : bits .and .u64 (a : Int) (b : Int) = ((a &&& b : Nat) : Int) := by
  have hw : ∀ n : Int, 0 ≤ n → n < 2 ^ 64 → IntKind.u64.wrap n = n := fun n h0 h1 => by simp [IntKind.wrap, IntKind.bits, IntKind.signed]; omega
  exact (bits_nat .u64 64 (by decide) hw a b ha hb).1
theorem andNot_u64 {a b : Nat} (ha : a < 2 ^ 64) (hb : b < 2 ^ 64) : bits .andNot .u64 (a : Int) (b : Int) = ((a &&& (18446744073709551615 - b) : Nat) : Int) := u64_andNot_nat a b ha hb
theorem not_bit {r i : Nat} (hr : r < 2 ^ 64) : (18446744073709551615 - r).testBit i = (decide (i < 64) && !r.testBit i) := by
  have h := Nat.testBit_two_pow_sub_succ hr i
  rw [show 18446744073709551615 - r = 2 ^ 64 - (r + 1) by omega]
  exact h
theorem andNot_zero {u r : Nat} (hu : u < 2 ^ 64) (hr : r < 2 ^ 64) : u &&& (18446744073709551615 - r) = 0 ↔ u &&& r = u := by
  constructor
  · intro h
    apply Nat.eq_of_testBit_eq
    intro i
    have h1 : (u &&& (18446744073709551615 - r)).testBit i = false := by rw [h]; exact Nat.zero_testBit i
    rw [Nat.testBit_and, not_bit hr] at h1
    rw [Nat.testBit_and]
    by_cases hi : i < 64
    · rw [decide_eq_true hi, Bool.true_and] at h1
      cases hu1 : u.testBit i <;> cases hr1 : r.testBit i <;> simp_all
    · rw [Nat.testBit_lt_two_pow (Nat.lt_of_lt_of_le hu (Nat.pow_le_pow_right (by decide) (by omega)))]; rfl
  · intro h
    apply Nat.eq_of_testBit_eq
    intro i
    have h1 : (u &&& r).testBit i = u.testBit i := by rw [h]
    rw [Nat.testBit_and] at h1
    rw [Nat.testBit_and, not_bit hr, Nat.zero_testBit]
    cases hu1 : u.testBit i <;> cases hr1 : r.testBit i <;> simp_all
theorem and_lt_u {x y u : Nat} (hx : x < 2 ^ 64) (h : u = x &&& y) : u < 2 ^ 64 := by rw [h]; exact Nat.lt_of_le_of_lt Nat.and_le_left hx
theorem shr_nat {u : Nat} (hu : u < 2 ^ 64) (i : Nat) : ∃ v : Nat, (u : Int) / 2 ^ i = (v : Int) ∧ bits .and .u64 (v : Int) 1 = (if u.testBit i then 1 else 0) ∧ v < 2 ^ 64 := by
  have hv : u / 2 ^ i < 2 ^ 64 := Nat.lt_of_le_of_lt (Nat.div_le_self _ _) hu
  refine ⟨u / 2 ^ i, by norm_cast, ?_, hv⟩
  have h := and_u64 hv (show 1 < 2 ^ 64 by decide)
  rw [show ((1 : Nat) : Int) = 1 from rfl] at h
  rw [h, Nat.and_one_is_mod]
  rw [Nat.testBit_eq_decide_div_mod_eq]
  rcases Nat.mod_two_eq_zero_or_one (u / 2 ^ i) with e | e <;> rw [e] <;> rfl
theorem jst_lt {m : Nat} (R : Nat → Nat) (u : Nat) : ∀ pre : List (Fin m), m ≤ 64 → jst R u pre < 2 ^ 64 := by
  intro pre hm
  have key : ∀ (l : List (Fin m)) (o : Nat), o < 2 ^ 64 → l.foldl (fun o x => if u.testBit x.val = true ∧ u &&& R x.val = u then o ||| 2 ^ x.val else o) o < 2 ^ 64 := by
    intro l
    induction l with
    | nil => exact fun o h => h
    | cons x t ih =>
      intro o ho
      refine ih _ ?_
      show (if u.testBit x.val = true ∧ u &&& R x.val = u then o ||| 2 ^ x.val else o) < 2 ^ 64
      split
      · exact Nat.or_lt_two_pow ho (Nat.pow_lt_pow_right (by decide) (by have := x.2; omega))
      · exact ho
  exact key pre 0 (by decide)
set_option maxRecDepth 100000 in
set_option maxHeartbeats 2000000 in
theorem joins_in (A : Option Addr) (c : Nat) (l : List Int) (hl : okU l) (hl64 : l.length ≤ 64) (w : World) (hr : Kd.C (Kd.int .u64) w A l.length l) (hc : l.length ≤ c) (a b : Nat) (ha : a < l.length) (hb : b < l.length) :
    CallsIn Fence.wide 8 Try.prog 52 #[.slice A l.length c, .int .i64 a, .int .i64 b] w fun e W' => e = .returned (.int .u64 ((jst (rowsF l) (rowsF l a &&& rowsF l b) (labs l.length l.length) : Nat) : Int)) ∧ Below w.heap.size w W' := by
  obtain ⟨ad, rfl, Ca⟩ := Kd.at_int hr (a : Int) (by omega) (by omega)
  obtain ⟨ad2, e2, Cb⟩ := Kd.at_int hr (b : Int) (by omega) (by omega)
  obtain rfl : ad = ad2 := by injection e2
  obtain ⟨u, hu⟩ : ∃ u, u = rowsF l a &&& rowsF l b := ⟨_, rfl⟩
  have hand := and_u64 (rowsF_lt hl a) (rowsF_lt hl b)
  rw [← hu] at hand
  rw [← hu]
  have huh := Lib.hid hu
  clear hu
  rw [row_is hl ha, Int.toNat_natCast] at Ca
  rw [row_is hl hb, Int.toNat_natCast] at Cb
  have hA0 : (0 : Int) ≤ (a : Int) := by omega
  have hA1 : (a : Int) < (l.length : Int) := by omega
  have hB0 : (0 : Int) ≤ (b : Int) := by omega
  have hB1 : (b : Int) < (l.length : Int) := by omega
  have Ca1 := vcell_alloc Ca (.cells #[.slice (some ad) l.length c] 61)
  have Cb1 := vcell_alloc Cb (.cells #[.slice (some ad) l.length c] 61)
  have hf1_ : Fence.wide.fn 45 := trivial
  have hmx : Try.prog.follows .mixedOrders = true := by kernel_rfl
  have hlt := World.block_lt_of_cell? _ _ Ca
  have hltb := World.block_lt_of_cell? _ _ Cb
  have Ca2 := vcell_alloc (W := (w.alloc (.cells #[.slice (some ad) l.length c] 61)).drew) Ca1 (.cells #[.int .u64 0] 33)
  have Cb2 := vcell_alloc (W := (w.alloc (.cells #[.slice (some ad) l.length c] 61)).drew) Cb1 (.cells #[.int .u64 0] 33)
  have Ca3 := vcell_alloc Ca1 (.cells #[.int .u64 0] 33)
  have Cb3 := vcell_alloc Cb1 (.cells #[.int .u64 0] 33)
  refine callsIn_of_wp_marks Try.func52 rfl trivial ?_ rfl
  simp only [Try.ntmps52, List.size_toArray, List.length_cons, List.length_nil, Nat.reduceAdd, Nat.reduceSub, Array.replicate_succ, Array.replicate_zero, List.push_toArray, List.append_toArray, List.nil_append, List.cons_append]
  gi_wp2
  refine wpIn_mono (Q := NoPanic fun e a_ w_ => e = Exit.normal ∧ a_ = { tmps := #[.slice (some ad) l.length c, .int .i64 a, .int .i64 b, .pointer (some ⟨w.heap.size, 0, none⟩), undef, undef, .int .u64 0, .pointer (some ⟨w.heap.size + 1, 0, none⟩), undef, undef, .slice (some ad) l.length c, .int .i64 a, .pointer (some (ad.add a)), .int .u64 ((rowsF l a : Nat) : Int), .slice (some ad) l.length c, .int .i64 b, .pointer (some (ad.add b)), .int .u64 ((rowsF l b : Nat) : Int), .int .u64 (u : Int), undef, undef, undef, undef, undef, undef, undef, undef, undef, undef, undef, undef, undef, undef, undef, undef, undef, undef, undef, undef, undef, undef], defers := [] } ∧ w_ = ((w.alloc (.cells #[.slice (some ad) l.length c] 61)).alloc (.cells #[.int .u64 (u : Int)] 33)).drew) ?_ (fun e_ a_ w_ h_ => ?_)
  · gi_region_with_o (fail)
    all_goals exact ⟨rfl, rfl, rfl⟩
  · obtain ⟨rfl, rfl, rfl⟩ := NoPanic.imp _ _ _ h_
    gi_wp2_with (gi_at_call 45; refine (labels_in Fence.wide 7 trivial rfl _ _ _ _).mono ?_; rintro e w' ⟨rfl, rfl⟩)
    have bP : Boxed (((w.alloc (.cells #[.slice (some ad) l.length c] 61)).alloc (.cells #[.int .u64 (u : Int)] 33)).alloc (.cells #[.int .u64 0] 33)).drew w.heap.size 61 (.slice (some ad) l.length c) := ((Boxed.new w 61 (.slice (some ad) l.length c)).alloc _).alloc _
    have bU : Boxed (((w.alloc (.cells #[.slice (some ad) l.length c] 61)).alloc (.cells #[.int .u64 (u : Int)] 33)).alloc (.cells #[.int .u64 0] 33)).drew (w.heap.size + 1) 33 (.int .u64 (u : Int)) := by
      have h_ := (Boxed.new (w.alloc (.cells #[.slice (some ad) l.length c] 61)) 33 (.int .u64 (u : Int))).alloc (.cells #[.int .u64 0] 33)
      rw [World.size_alloc] at h_
      exact h_
    have bO : Boxed (((w.alloc (.cells #[.slice (some ad) l.length c] 61)).alloc (.cells #[.int .u64 (u : Int)] 33)).alloc (.cells #[.int .u64 0] 33)).drew (w.heap.size + 1 + 1) 33 (.int .u64 0) := by
      have h_ := Boxed.new ((w.alloc (.cells #[.slice (some ad) l.length c] 61)).alloc (.cells #[.int .u64 (u : Int)] 33)) 33 (.int .u64 0)
      simp only [World.size_alloc] at h_
      exact h_
    have bS := Boxed.new (((w.alloc (.cells #[.slice (some ad) l.length c] 61)).alloc (.cells #[.int .u64 (u : Int)] 33)).alloc (.cells #[.int .u64 0] 33)).drew 61 (.slice (some ad) l.length c)
    simp only [World.size_drew, World.size_alloc] at bS
    have hB0 : Below w.heap.size w ((((w.alloc (.cells #[.slice (some ad) l.length c] 61)).alloc (.cells #[.int .u64 (u : Int)] 33)).alloc (.cells #[.int .u64 0] 33)).drew.alloc (.cells #[.slice (some ad) l.length c] 61)) := vbelow_alloc (vbelow_drew (vbelow_alloc (vbelow_alloc (vbelow_alloc (Below.refl _ _) _) _) _)) _
    refine wpIn_rangeFunc_ownG rfl (by omega) (gf := 70) (lb := #[.pointer (some ⟨w.heap.size + 1 + 1 + 1, 0, none⟩)]) rfl trivial (enters_of Try.func70 (by kernel_rfl) rfl)
      (labels_stops Fence.wide 7 trivial rfl (by omega) (w.heap.size + 1 + 1 + 1) l.length c (some ad) hl64 _ (by simp) bS.cell) KC_t (KC_b (by simp)) (Below.refl _ _) (fun _ => rfl)
      (fun pre W => Boxed W w.heap.size 61 (.slice (some ad) l.length c) ∧ Boxed W (w.heap.size + 1) 33 (.int .u64 (u : Int)) ∧ Boxed W (w.heap.size + 1 + 1) 33 (.int .u64 ((jst (rowsF l) u pre : Nat) : Int)) ∧ Boxed W (w.heap.size + 1 + 1 + 1) 61 (.slice (some ad) l.length c) ∧ Below w.heap.size w W)
      (fun _ _ _ => False)
      (OwnFrom.and (Own.from (boxed_own _ _ (fun _ => .slice (some ad) l.length c)) _) (OwnFrom.and (Own.from (boxed_own _ _ (fun _ => .int .u64 (u : Int))) _) (OwnFrom.and (Own.from (boxed_own _ _ (fun pre : List (Fin l.length) => .int .u64 ((jst (rowsF l) u pre : Nat) : Int))) _) (OwnFrom.and (Own.from (boxed_own _ _ (fun _ => .slice (some ad) l.length c)) _) (ownFrom_below (Nat.le_refl _) (by simp; omega))))))
      (fun _ _ _ _ _ hs _ _ => hs)
      ⟨bP.alloc _, bU.alloc _, bO.alloc _, bS, hB0⟩
      (fun x => { tmps := #[.slice (some ad) l.length c, .int .i64 a, .int .i64 b, .pointer (some ⟨w.heap.size, 0, none⟩), undef, undef, .int .u64 0, .pointer (some ⟨w.heap.size + 1, 0, none⟩), .pointer (some ⟨w.heap.size + 1 + 1, 0, none⟩), .int .i64 ((x : Fin l.length).val : Nat), .slice (some ad) l.length c, .int .i64 a, .pointer (some (ad.add a)), .int .u64 ((rowsF l a : Nat) : Int), .slice (some ad) l.length c, .int .i64 b, .pointer (some (ad.add b)), .int .u64 ((rowsF l b : Nat) : Int), .int .u64 (u : Int), .slice (some ad) l.length c, .func (.func 70) #[] #[.pointer (some ⟨w.heap.size + 1 + 1 + 1, 0, none⟩)], .int .i64 (x.val : Nat), undef, undef, undef, undef, undef, undef, undef, undef, undef, undef, undef, undef, undef, undef, undef, undef, undef, undef, undef], defers := [] }) ?assign ?body ?done ?stop
    case assign =>
      intro l_ x W K hK
      gi_wp2
      exact hK
    case body =>
      rintro l_ pre x W ⟨hP, hU, hO, hS, hB⟩ hlt
      have hcP := hP.cell
      have hcU := hU.cell
      have hcO := hO.cell
      have hfO := hO.frozen
      obtain ⟨ad3, e3, Cx⟩ := Kd.at_int (Kd.C_below hr hB) (x.val : Int) (by omega) (by have := x.2; omega)
      obtain rfl : ad = ad3 := by injection e3
      rw [row_is hl x.2, Int.toNat_natCast] at Cx
      have hX0 : (0 : Int) ≤ ((x.val : Nat) : Int) := by omega
      have hX1 : ((x.val : Nat) : Int) < (l.length : Int) := by have := x.2; omega
      have hmx2 : Try.prog.follows .mixedOrders = true := by kernel_rfl
      have hx64 : x.val < 64 := by have := x.2; omega
      have hxi : ((x.val : Nat) : Int) ≤ 64 := by omega
      have hu64 := and_lt_u (rowsF_lt hl a) huh.out
      obtain ⟨v, hv, hvb, hv64⟩ := shr_nat hu64 x.val
      have hRx := rowsF_lt hl x.val
      have hor := or_u64 (jst_lt (rowsF l) u pre hl64) (show 2 ^ x.val < 2 ^ 64 from Nat.pow_lt_pow_right (by decide) hx64)
      have hw1 := wrap_pow hx64
      have hw2 : IntKind.u64.wrap (1 * (2 : Int) ^ x.val) = ((2 ^ x.val : Nat) : Int) := by rw [Int.one_mul]; exact hw1
      have hS2' := fun (u_ : Value) => hS.other (B' := w.heap.size + 1 + 1) (by omega) u_
      have hP2' := fun (u_ : Value) => hP.other (B' := w.heap.size + 1 + 1) (by omega) u_
      have hU2' := fun (u_ : Value) => hU.other (B' := w.heap.size + 1 + 1) (by omega) u_
      have HRX := Lib.hid hRx
      have HHL := Lib.hid hl
      clear hRx hl
      cases hb_ : u.testBit x.val with
      | false =>
        have hE : bits .and .u64 ((v : Nat) : Int) 1 = 0 := by rw [hvb, hb_]; rfl
        have hj : jst (rowsF l) u (pre ++ [x]) = jst (rowsF l) u pre := by simp [jst, hb_]
        have hjh := Lib.hid hj
        clear hj hor hw1 hw2
        gi_wp2
        gi_region_with_o (fail)
        all_goals gi_wp2
        all_goals exact ⟨(KeepsOthers.drew _).from _, rfl, hP, hU, by rw [hjh.out]; exact hO, hS, vbelow_drew hB⟩
      | true =>
        have hE : bits .and .u64 ((v : Nat) : Int) 1 = 1 := by rw [hvb, hb_]; rfl
        have hD := andNot_u64 hu64 HRX.out
        obtain ⟨d, hd⟩ : ∃ d, d = u &&& (18446744073709551615 - rowsF l x.val) := ⟨_, rfl⟩
        rw [← hd] at hD
        by_cases hd0 : d = 0
        · have hD0 : bits .andNot .u64 ((u : Nat) : Int) ((rowsF l x.val : Nat) : Int) = 0 := by rw [hD, hd0]; rfl
          have hz : u &&& rowsF l x.val = u := (andNot_zero hu64 HRX.out).1 (by rw [← hd]; exact hd0)
          have hj : jst (rowsF l) u (pre ++ [x]) = jst (rowsF l) u pre ||| 2 ^ x.val := by simp [jst, hb_, hz]
          rw [← hj, show ((2 ^ x.val : Nat) : Int) = (2 : Int) ^ x.val by norm_cast] at hor
          have hjh := Lib.hid hj
          clear hj hD hd0 hd hz
          gi_wp2
          gi_region_with_o (fail)
          all_goals gi_wp2
          all_goals gi_region_with_o (fail)
          all_goals gi_wp2
          all_goals
            have O2 := hO.set (.int .u64 ((jst (rowsF l) u (pre ++ [x]) : Nat) : Int))
            exact ⟨(((KeepsOthers.setCell _ _ _).trans (KeepsOthers.drew _)).trans (KeepsOthers.drew _)).from _, KC_of hS (hS2' _), hP2' _, hU2' _, O2, hS2' _, vbelow_drew (vbelow_drew (hB.setCell (p := ⟨w.heap.size + 1 + 1, 0, none⟩) (by simp; omega) _))⟩
        · have hdz : ((d : Int) == 0) = false := beq_eq_false_iff_ne.2 (by omega)
          have hz : ¬ (u &&& rowsF l x.val = u) := fun h_ => hd0 (by rw [hd]; exact (andNot_zero hu64 HRX.out).2 h_)
          have hj : jst (rowsF l) u (pre ++ [x]) = jst (rowsF l) u pre := by simp [jst, hz]
          have hjh := Lib.hid hj
          clear hj hor hw1 hw2 hd hz hd0
          gi_wp2
          gi_region_with_o (fail)
          all_goals gi_wp2
          all_goals exact ⟨(KeepsOthers.drew _).from _, rfl, hP, hU, by rw [hjh.out]; exact hO, hS, vbelow_drew hB⟩
    case done =>
      rintro D ys W hD rfl ⟨hP, hU, hO, hS, hB⟩ hK
      have hc := hO.cell
      gi_wp2
      refine ⟨by simp, .inl ⟨_, _, rfl, run_takeDeferred hK, ?_⟩⟩
      exact ⟨_, results_tmp rfl _ _ _, rfl, hB.trans (belowK_b (w := w) (Nat.le_refl _) W D _ _ (by simp at hD; omega) hK rfl rfl)⟩
    case stop =>
      rintro D c_ pre W _ _ h _
      exact h.elim
end Go.Proofs.Ytlbjcmiegbejdaa.Q
