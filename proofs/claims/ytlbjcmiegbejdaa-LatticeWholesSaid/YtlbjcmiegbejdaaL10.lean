/- Layer 2: the class of a label. -/
import Derived.Test.YtlbjcmiegbejdaaL8
namespace Go.Proofs.Ytlbjcmiegbejdaa.Q
open Go.RowKit Go.Shelf Bm
attribute [local go_sem] Oper.semAt_some
set_option linter.unusedVariables false
set_option linter.unusedSimpArgs false
open Go.Proofs.YtlbjcmiegbejdaaW.PrintWords Go.Proofs.YtlbjcmiegbejdaaW.PrintMore Go.Proofs.YtlbjcmiegbejdaaW.PrintLast
/-- The labels so far that are equal to a. -/
def cls {m : Nat} (R : Nat → Nat) (a : Nat) (pre : List (Fin m)) : Nat := pre.foldl (fun o x => if (R a).testBit x.val = true ∧ (R x.val).testBit a = true then o ||| 2 ^ x.val else o) 0
theorem cls_lt {m : Nat} (R : Nat → Nat) (a : Nat) : ∀ pre : List (Fin m), m ≤ 64 → cls R a pre < 2 ^ 64 := by
  intro pre hm
  have key : ∀ (l : List (Fin m)) (o : Nat), o < 2 ^ 64 → l.foldl (fun o x => if (R a).testBit x.val = true ∧ (R x.val).testBit a = true then o ||| 2 ^ x.val else o) o < 2 ^ 64 := by
    intro l
    induction l with
    | nil => exact fun o h => h
    | cons x t ih =>
      intro o ho
      refine ih _ ?_
      show (if (R a).testBit x.val = true ∧ (R x.val).testBit a = true then o ||| 2 ^ x.val else o) < 2 ^ 64
      split
      · exact Nat.or_lt_two_pow ho (Nat.pow_lt_pow_right (by decide) (by have := x.2; omega))
      · exact ho
  exact key pre 0 (by decide)
theorem cls_yes {m : Nat} {R : Nat → Nat} {a : Nat} {pre : List (Fin m)} {x : Fin m} (h : (R a).testBit x.val = true ∧ (R x.val).testBit a = true) : cls R a (pre ++ [x]) = cls R a pre ||| 2 ^ x.val := by
  unfold cls
  rw [List.foldl_append, List.foldl_cons, List.foldl_nil, if_pos h]
theorem cls_no {m : Nat} {R : Nat → Nat} {a : Nat} {pre : List (Fin m)} {x : Fin m} (h : ¬ ((R a).testBit x.val = true ∧ (R x.val).testBit a = true)) : cls R a (pre ++ [x]) = cls R a pre := by
  unfold cls
  rw [List.foldl_append, List.foldl_cons, List.foldl_nil, if_neg h]
theorem flowB_bit {l : List Int} (hl : okU l) {a b : Nat} (ha : a < l.length) (hb : b < 64) : flowsB.f l (a : Int) (b : Int) = some ((rowsF l a).testBit b) := by
  unfold flowsB.f
  rw [if_pos (by omega), if_pos (by omega), if_pos (by omega), row_is hl ha]
  have hi := (okU_at hl ha).2
  obtain ⟨v, e1, e2, _⟩ := shr_nat hi b
  have e : shr .u64 ((rowsF l a : Nat) : Int) (b : Int) = (v : Int) := by
    rw [← e1]
    show ((rowsF l a : Nat) : Int) / 2 ^ min ((b : Int).toNat) 64 = _
    rw [Int.toNat_natCast, Nat.min_eq_left (by omega)]
  rw [e, e2]
  cases (rowsF l a).testBit b <;> rfl
set_option maxRecDepth 100000 in
set_option maxHeartbeats 4000000 in
theorem class_in (A : Option Addr) (c : Nat) (l : List Int) (hl : okU l) (hl64 : l.length ≤ 64) (w : World) (hr : Kd.C (Kd.int .u64) w A l.length l) (hc : l.length ≤ c) (a : Nat) (ha : a < l.length) :
    CallsIn Fence.wide 8 Try.prog 62 #[.slice A l.length c, .int .i64 (a : Int)] w fun e W' => e = .returned (.int .u64 ((cls (rowsF l) a (labs l.length l.length) : Nat) : Int)) ∧ Below w.heap.size w W' := by
  have hf1_ : Fence.wide.fn 45 := trivial
  have hf2_ : Fence.wide.fn 61 := trivial
  have hmx : Try.prog.follows .mixedOrders = true := by kernel_rfl
  refine callsIn_of_wp_marks Try.func62 rfl trivial ?_ rfl
  simp only [Try.ntmps62, List.size_toArray, List.length_cons, List.length_nil, Nat.reduceAdd, Nat.reduceSub, Array.replicate_succ, Array.replicate_zero, List.push_toArray, List.append_toArray, List.nil_append, List.cons_append]
  gi_wp2_with (gi_at_call 45; refine (labels_in Fence.wide 7 trivial rfl _ _ _ _).mono ?_; rintro e w' ⟨rfl, rfl⟩)
  have bP : Boxed (((w.alloc (.cells #[.slice A l.length c] 61)).alloc (.cells #[.int .i64 (a : Int)] 3)).alloc (.cells #[.int .u64 0] 33)) w.heap.size 61 (.slice A l.length c) := ((Boxed.new w 61 (.slice A l.length c)).alloc _).alloc _
  have bA : Boxed (((w.alloc (.cells #[.slice A l.length c] 61)).alloc (.cells #[.int .i64 (a : Int)] 3)).alloc (.cells #[.int .u64 0] 33)) (w.heap.size + 1) 3 (.int .i64 (a : Int)) := by
    have h_ := (Boxed.new (w.alloc (.cells #[.slice A l.length c] 61)) 3 (.int .i64 (a : Int))).alloc (.cells #[.int .u64 0] 33)
    rw [World.size_alloc] at h_
    exact h_
  have bO : Boxed (((w.alloc (.cells #[.slice A l.length c] 61)).alloc (.cells #[.int .i64 (a : Int)] 3)).alloc (.cells #[.int .u64 0] 33)) (w.heap.size + 1 + 1) 33 (.int .u64 0) := by
    have h_ := Boxed.new ((w.alloc (.cells #[.slice A l.length c] 61)).alloc (.cells #[.int .i64 (a : Int)] 3)) 33 (.int .u64 0)
    simp only [World.size_alloc] at h_
    exact h_
  have bS := Boxed.new (((w.alloc (.cells #[.slice A l.length c] 61)).alloc (.cells #[.int .i64 (a : Int)] 3)).alloc (.cells #[.int .u64 0] 33)) 61 (.slice A l.length c)
  simp only [World.size_alloc] at bS
  have hB0 : Below w.heap.size w ((((w.alloc (.cells #[.slice A l.length c] 61)).alloc (.cells #[.int .i64 (a : Int)] 3)).alloc (.cells #[.int .u64 0] 33)).alloc (.cells #[.slice A l.length c] 61)) := vbelow_alloc (vbelow_alloc (vbelow_alloc (vbelow_alloc (Below.refl _ _) _) _) _) _
  refine wpIn_rangeFunc_ownG rfl (by omega) (gf := 70) (lb := #[.pointer (some ⟨w.heap.size + 1 + 1 + 1, 0, none⟩)]) rfl trivial (enters_of Try.func70 (by kernel_rfl) rfl)
    (labels_stops Fence.wide 7 trivial rfl (by omega) (w.heap.size + 1 + 1 + 1) l.length c A hl64 _ (by simp) bS.cell) KC_t (KC_b (by simp)) (Below.refl _ _) (fun _ => rfl)
    (fun pre W => Boxed W w.heap.size 61 (.slice A l.length c) ∧ Boxed W (w.heap.size + 1) 3 (.int .i64 (a : Int)) ∧ Boxed W (w.heap.size + 1 + 1) 33 (.int .u64 ((cls (rowsF l) a pre : Nat) : Int)) ∧ Boxed W (w.heap.size + 1 + 1 + 1) 61 (.slice A l.length c) ∧ Below w.heap.size w W)
    (fun _ _ _ => False)
    (OwnFrom.and (Own.from (boxed_own _ _ (fun _ => .slice A l.length c)) _) (OwnFrom.and (Own.from (boxed_own _ _ (fun _ => .int .i64 (a : Int))) _) (OwnFrom.and (Own.from (boxed_own _ _ (fun pre : List (Fin l.length) => .int .u64 ((cls (rowsF l) a pre : Nat) : Int))) _) (OwnFrom.and (Own.from (boxed_own _ _ (fun _ => .slice A l.length c)) _) (ownFrom_below (Nat.le_refl _) (by simp; omega))))))
    (fun _ _ _ _ _ hs _ _ => hs)
    ⟨bP.alloc _, bA.alloc _, bO.alloc _, bS, hB0⟩
    (fun x => { tmps := #[.slice A l.length c, .int .i64 (a : Int), .pointer (some ⟨w.heap.size, 0, none⟩), .pointer (some ⟨w.heap.size + 1, 0, none⟩), .int .u64 0, .pointer (some ⟨w.heap.size + 1 + 1, 0, none⟩), .int .i64 ((x : Fin l.length).val : Nat), .slice A l.length c, .func (.func 70) #[] #[.pointer (some ⟨w.heap.size + 1 + 1 + 1, 0, none⟩)], .int .i64 (x.val : Nat), undef, undef, undef, undef, undef, undef, undef, undef, undef, undef, undef, undef, undef, undef, undef], defers := [] }) ?assign ?body ?done ?stop
  case assign =>
    intro l_ x W K hK
    gi_wp2
    exact hK
  case body =>
    rintro l_ pre x W ⟨hP, hA, hO, hS, hB⟩ hlt
    have hx := x.2
    have hx64 : x.val < 64 := by omega
    have hFa := fun W' hb => CallsIn.inRound l_ ((callsIn_wide (n := 5)).2 (flowsB.calls A c l (a : Int) (x.val : Int) _ W' (Kd.C_below hr hb) hc (flowB_bit hl ha hx64)))
    have hFx := fun W' hb => CallsIn.inRound l_ ((callsIn_wide (n := 5)).2 (flowsB.calls A c l (x.val : Int) (a : Int) _ W' (Kd.C_below hr hb) hc (flowB_bit hl hx (by omega))))
    have hor := or_u64 (cls_lt (rowsF l) a pre hl64) (show 2 ^ x.val < 2 ^ 64 from Nat.pow_lt_pow_right (by decide) hx64)
    have hw1 := wrap_pow hx64
    have hw2 : IntKind.u64.wrap (1 * (2 : Int) ^ x.val) = ((2 ^ x.val : Nat) : Int) := by rw [Int.one_mul]; exact hw1
    have hxi : ((x.val : Nat) : Int) ≤ 64 := by omega
    have hX0 : (0 : Int) ≤ ((x.val : Nat) : Int) := by omega
    have hcP := hP.cell
    have hcA := hA.cell
    have hcO := hO.cell
    have hfO := hO.frozen
    have hyes := cls_yes (R := rowsF l) (a := a) (pre := pre) (x := x)
    have hno := cls_no (R := rowsF l) (a := a) (pre := pre) (x := x)
    cases h1 : (rowsF l a).testBit x.val with
    | false =>
      have hj := hno (by rw [h1]; simp)
      rw [h1] at hFa
      have hjh := Lib.hid hj
      clear hj hyes hno hor hw1 hw2 hFx
      gi_wp2_with (gi_at_call 61; refine (hFa _ hB).mono ?_; rintro e w2 ⟨rfl, hd⟩; have hb2 := hd.below)
      exact ⟨(keeps_below hb2).from _, KC_of hS (boxed_below hS hb2), boxed_below hP hb2, boxed_below hA hb2, by rw [hjh.out]; exact boxed_below hO hb2, boxed_below hS hb2, hB.trans (hb2.mono hB.size)⟩
    | true =>
      rw [h1] at hFa
      cases h2 : (rowsF l x.val).testBit a with
      | false =>
        have hj := hno (by rw [h1, h2]; simp)
        rw [h2] at hFx
        have hjh := Lib.hid hj
        clear hj hyes hno hor hw1 hw2
        gi_wp2_with (gi_at_call 61; first | (with_reducible refine (hFa _ hB).mono ?_; rintro e w2 ⟨rfl, hd⟩; have hb2 := hd.below; have hB2 := hB.trans (hb2.mono hB.size); have hcP2 := (boxed_below hP hb2).cell; have hcA2 := (boxed_below hA hb2).cell) | (with_reducible refine (hFx _ hB2).mono ?_; rintro e w3 ⟨rfl, hd3⟩; have hb3 := hd3.below))
        have hbb := hb2.trans (hb3.mono hb2.size)
        exact ⟨(keeps_below hbb).from _, KC_of hS (boxed_below hS hbb), boxed_below hP hbb, boxed_below hA hbb, by rw [hjh.out]; exact boxed_below hO hbb, boxed_below hS hbb, hB.trans (hbb.mono hB.size)⟩
      | true =>
        have hj := hyes ⟨h1, h2⟩
        rw [h2] at hFx
        rw [← hj, show ((2 ^ x.val : Nat) : Int) = (2 : Int) ^ x.val by norm_cast] at hor
        have hjh := Lib.hid hj
        clear hj hyes hno
        gi_wp2_with (gi_at_call 61; first | (with_reducible refine (hFa _ hB).mono ?_; rintro e w2 ⟨rfl, hd⟩; have hb2 := hd.below; have hB2 := hB.trans (hb2.mono hB.size); have hcP2 := (boxed_below hP hb2).cell; have hcA2 := (boxed_below hA hb2).cell) | (with_reducible refine (hFx _ hB2).mono ?_; rintro e w3 ⟨rfl, hd3⟩; have hb3 := hd3.below; have hbb := hb2.trans (hb3.mono hb2.size); have hO3 := boxed_below hO hbb; have hcO3 := hO3.cell; have hfO3 := hO3.frozen))
        gi_region_with_o (fail)
        all_goals gi_wp2
        all_goals
          have O2 := hO3.set (.int .u64 ((cls (rowsF l) a (pre ++ [x]) : Nat) : Int))
          exact ⟨(((keeps_below hbb).trans (KeepsOthers.setCell _ _ _)).trans (KeepsOthers.drew _)).from _, KC_of hS ((boxed_below hS hbb).other (B' := w.heap.size + 1 + 1) (by omega) _), (boxed_below hP hbb).other (B' := w.heap.size + 1 + 1) (by omega) _, (boxed_below hA hbb).other (B' := w.heap.size + 1 + 1) (by omega) _, O2, (boxed_below hS hbb).other (B' := w.heap.size + 1 + 1) (by omega) _, vbelow_drew ((hB.trans (hbb.mono hB.size)).setCell (p := ⟨w.heap.size + 1 + 1, 0, none⟩) (by simp; omega) _)⟩
  case done =>
    rintro D ys W hD rfl ⟨hP, hA, hO, hS, hB⟩ hK
    have hc := hO.cell
    gi_wp2
    refine ⟨by simp, .inl ⟨_, _, rfl, run_takeDeferred hK, ?_⟩⟩
    exact ⟨_, results_tmp rfl _ _ _, rfl, hB.trans (belowK_b (w := w) (Nat.le_refl _) W D _ _ (by simp at hD; omega) hK rfl rfl)⟩
  case stop =>
    rintro D c_ pre W _ _ h _
    exact h.elim
end Go.Proofs.Ytlbjcmiegbejdaa.Q

/- Layer 2: the classes of equal labels, in the printed form. -/
namespace Go.Proofs.Ytlbjcmiegbejdaa.Q
open Go.RowKit Go.Shelf Bm
attribute [local go_sem] Oper.semAt_some
set_option linter.unusedVariables false
set_option linter.unusedSimpArgs false
open Go.Proofs.YtlbjcmiegbejdaaW.PrintWords Go.Proofs.YtlbjcmiegbejdaaW.PrintMore Go.Proofs.YtlbjcmiegbejdaaW.PrintLast
def clsA (l : List Int) (a : Nat) : Nat := cls (rowsF l) a (labs l.length l.length)
/-- The class's first member. -/
def clsN (l : List Int) (a : Nat) : Int × Bool := nthR (pfx (clsA l a) 64) 0
def lattice_policy_class.f (l : List Int) (a : Int) : Option Int := if okUb l = true ∧ l.length ≤ 64 ∧ 0 ≤ a ∧ a < l.length then some ((clsA l a.toNat : Nat) : Int) else none
theorem lattice_policy_class.calls (A0 : Option Addr) (c0 : Nat) (l0 : List Int) (a1 : Int) (r : Int) (w : World) (hr0 : Kd.C (Kd.int .u64) w A0 l0.length l0) (hc0 : l0.length ≤ c0) (h : lattice_policy_class.f l0 a1 = some r) :
    Calls Try.prog 62 #[.slice A0 l0.length c0, .int .i64 a1] w fun e w' => e = .returned (.int .u64 r) ∧ Below w.heap.size w w' := by
  unfold lattice_policy_class.f at h
  split at h
  · next hc =>
    obtain ⟨h1, h2, h3, h4⟩ := hc
    obtain ⟨n, rfl⟩ := Int.eq_ofNat_of_zero_le h3
    obtain rfl := Option.some.inj h
    rw [Int.toNat_natCast]
    exact callsIn_wide.1 (class_in A0 c0 l0 (okU_of h1) h2 w hr0 hc0 n (by omega))
  · cases h
/-- The classes so far, each at its first member. -/
def clsTo (l : List Int) (pre : List (Fin l.length)) : List Int := pre.foldl (fun L x => if (clsN l x.val).1 = (x.val : Int) then L ++ [((clsA l x.val : Nat) : Int)] else L) []
theorem clsTo_yes {l : List Int} {pre : List (Fin l.length)} {x : Fin l.length} (h : (clsN l x.val).1 = (x.val : Int)) : clsTo l (pre ++ [x]) = clsTo l pre ++ [((clsA l x.val : Nat) : Int)] := by
  unfold clsTo
  rw [List.foldl_append, List.foldl_cons, List.foldl_nil, if_pos h]
theorem clsTo_no {l : List Int} {pre : List (Fin l.length)} {x : Fin l.length} (h : ¬ (clsN l x.val).1 = (x.val : Int)) : clsTo l (pre ++ [x]) = clsTo l pre := by
  unfold clsTo
  rw [List.foldl_append, List.foldl_cons, List.foldl_nil, if_neg h]
theorem clsTo_len {l : List Int} (pre : List (Fin l.length)) : (clsTo l pre).length ≤ pre.length := by
  unfold clsTo
  have key : ∀ (p : List (Fin l.length)) (L : List Int), (p.foldl (fun L x => if (clsN l x.val).1 = (x.val : Int) then L ++ [((clsA l x.val : Nat) : Int)] else L) L).length ≤ L.length + p.length := by
    intro p
    induction p with
    | nil => intro L; simp
    | cons x t ih =>
      intro L
      rw [List.foldl_cons]
      refine Nat.le_trans (ih _) ?_
      split
      · rw [List.length_append, List.length_cons, List.length_cons, List.length_nil]; omega
      · rw [List.length_cons]; omega
  simpa using key pre []
theorem clsA_lt {l : List Int} (h : l.length ≤ 64) (a : Nat) : clsA l a < 2 ^ 64 := cls_lt _ _ _ h
theorem nth_f {s : Nat} (hs : s < 2 ^ 64) : bits_Nth.f (s : Int) 0 = some (nthR (pfx s 64) 0) := by
  unfold bits_Nth.f
  have h1 : uOk (s : Int) = true := by unfold uOk; rw [decide_eq_true (by omega), decide_eq_true (by omega)]; rfl
  rw [if_pos h1, if_pos (by omega), Int.toNat_natCast]
theorem clsN_f {l : List Int} (h : l.length ≤ 64) (a : Nat) : bits_Nth.f ((clsA l a : Nat) : Int) 0 = some ((clsN l a).1, (clsN l a).2) := by
  have e : nthR (pfx (clsA l a) 64) 0 = clsN l a := rfl
  rw [nth_f (clsA_lt h a), e]
set_option maxRecDepth 100000 in
set_option maxHeartbeats 4000000 in
theorem classes_ok (A : Option Addr) (c : Nat) (l : List Int) (w : World) (hr : Kd.C (Kd.int .u64) w A l.length l) (hc : l.length ≤ c) (hok : okUb l = true) (h16 : l.length ≤ 16) (hck : lattice_Check.f l = some 0) :
    Calls Try.prog 39 #[.slice A l.length c] w fun e w' => ∃ v0_ : Value, e = .returned (.tuple #[v0_, .int .i64 0]) ∧ Kd.R (Kd.int .u64) 33 w' w.heap.size (fun _ => True) v0_ (clsTo l (labs l.length l.length)) ∧ Below w.heap.size w w' := by
  obtain ⟨i0, hi, hz0, hz1, hz2⟩ := info_parts infoU
  refine (callsIn_wide (n := 12)).1 ?_
  have f16 : Fence.wide.fn 16 := trivial
  have f45 : Fence.wide.fn 45 := trivial
  have f62 : Fence.wide.fn 62 := trivial
  have f63 : Fence.wide.fn 63 := trivial
  refine callsIn_of_wp_marks Try.func39 rfl trivial ?_ rfl
  simp only [Try.ntmps39, List.size_toArray, List.length_cons, List.length_nil, Nat.reduceAdd, Nat.reduceSub, Array.replicate_succ, Array.replicate_zero, List.push_toArray, List.append_toArray, List.nil_append, List.cons_append]
  gi_wp2_with (gi_at_call 16; refine ((callsIn_wide (n := 11)).2 (lattice_Check.calls A c l 0 _ hr hc hck)).mono ?_; rintro e w1 ⟨rfl, hb1⟩; have hC1 := Kd.C_below hr hb1; have hz1_ := hb1.size)
  gi_wp2_with (gi_at_call 45; refine (labels_in Fence.wide 11 trivial rfl _ _ _ _).mono ?_; rintro e w' ⟨rfl, rfl⟩)
  have bP : Boxed ((w1.alloc (.cells #[.slice A l.length c] 61)).alloc (.cells #[.slice none 0 0] 22)) w1.heap.size 61 (.slice A l.length c) := (Boxed.new w1 61 (.slice A l.length c)).alloc _
  have bO : Boxed ((w1.alloc (.cells #[.slice A l.length c] 61)).alloc (.cells #[.slice none 0 0] 22)) (w1.heap.size + 1) 22 (.slice none 0 0) := by
    have h_ := Boxed.new (w1.alloc (.cells #[.slice A l.length c] 61)) 22 (.slice none 0 0)
    simp only [World.size_alloc] at h_
    exact h_
  have bS := Boxed.new ((w1.alloc (.cells #[.slice A l.length c] 61)).alloc (.cells #[.slice none 0 0] 22)) 61 (.slice A l.length c)
  simp only [World.size_alloc] at bS
  have hB0 : Below w1.heap.size w1 (((w1.alloc (.cells #[.slice A l.length c] 61)).alloc (.cells #[.slice none 0 0] 22)).alloc (.cells #[.slice A l.length c] 61)) := vbelow_alloc (vbelow_alloc (vbelow_alloc (Below.refl _ _) _) _) _
  refine wpIn_rangeFunc_ownG rfl (by omega) (gf := 70) (lb := #[.pointer (some ⟨w1.heap.size + 1 + 1, 0, none⟩)]) rfl trivial (enters_of Try.func70 (by kernel_rfl) rfl)
    (labels_stops Fence.wide 11 trivial rfl (by omega) (w1.heap.size + 1 + 1) l.length c A (by omega) _ (by simp) bS.cell) KC_t (KC_b (by simp)) (Below.refl _ _) (fun _ => rfl)
    (fun pre W => Boxed W w1.heap.size 61 (.slice A l.length c) ∧ (∃ v, Boxed W (w1.heap.size + 1) 22 v ∧ W.ownsRow w1.heap.size 33 1 v (clsTo l pre).length ((clsTo l pre).map (Value.int .u64)) ∧ True) ∧ Boxed W (w1.heap.size + 1 + 1) 61 (.slice A l.length c) ∧ Below w1.heap.size w1 W)
    (fun _ _ _ => False)
    (OwnFrom.and (Own.from (boxed_own _ _ (fun _ => .slice A l.length c)) _) (OwnFrom.and (Own.from (holdsRow_own w1.heap.size (w1.heap.size + 1) 22 33 1 (fun pre => (clsTo l pre).length) (fun pre => (clsTo l pre).map (Value.int .u64)) (fun pre v => True)) _) (OwnFrom.and (Own.from (boxed_own _ _ (fun _ => .slice A l.length c)) _) (ownFrom_below (Nat.le_refl _) (by simp; omega)))))
    (fun _ _ _ _ _ hs _ _ => hs)
    ⟨bP.alloc _, ⟨_, bO.alloc _, World.ownsRow_nil _ _ _ _, trivial⟩, bS, hB0⟩
    (fun x => { tmps := #[.slice A l.length c, undef, .slice none 0 0, .int .i64 0, .int .i64 0, .pointer (some ⟨w1.heap.size, 0, none⟩), .pointer (some ⟨w1.heap.size + 1, 0, none⟩), .int .i64 ((x : Fin l.length).val : Nat), undef, undef, undef, .slice A l.length c, .int .i64 0, .int .i64 0, .bool false, undef, .slice A l.length c, .slice A l.length c, .func (.func 70) #[] #[.pointer (some ⟨w1.heap.size + 1 + 1, 0, none⟩)], .int .i64 (x.val : Nat), undef, undef, undef, undef, undef, undef, undef, undef, undef, undef, undef, undef, undef, undef, undef, undef], defers := [] }) ?assign ?body ?done ?stop
  case assign =>
    intro l_ x W K hK
    gi_wp2
    exact hK
  case body =>
    rintro l_ pre x W ⟨hP, ⟨v, hv, hrow, -⟩, hS, hB⟩ hlt
    have hx := x.2
    have hcP := hP.cell
    have hcl : lattice_policy_class.f l (x.val : Int) = some ((clsA l x.val : Nat) : Int) := by
      unfold lattice_policy_class.f
      rw [if_pos ⟨hok, by omega, by omega, by omega⟩, Int.toNat_natCast]
    have hCl := CallsIn.inRound l_ ((callsIn_wide (n := 9)).2 (lattice_policy_class.calls A c l (x.val : Int) _ W (Kd.C_below hC1 hB) hc hcl))
    have hnf : bits_Nth.f ((clsA l x.val : Nat) : Int) 0 = some ((clsN l x.val).1, (clsN l x.val).2) := clsN_f (by omega) x.val
    have hNt := fun W' => CallsIn.inRound l_ ((callsIn_wide (n := 9)).2 (bits_Nth.calls _ _ _ _ W' hnf))
    have hyes := clsTo_yes (l := l) (pre := pre) (x := x)
    have hno := clsTo_no (l := l) (pre := pre) (x := x)
    have hlen := clsTo_len pre
    generalize clsTo l pre = L at hrow hyes hno hlen
    generalize (clsN l x.val).1 = n1 at hyes hno hNt
    generalize (clsN l x.val).2 = n2 at hNt
    generalize clsA l x.val = s1 at hyes hNt hCl
    clear hcl hnf hck hok
    by_cases he : n1 = (x.val : Int)
    · have hb1_ : (n1 == (x.val : Int)) = true := beq_iff_eq.2 he
      have hj := Lib.hid (hyes he)
      clear hyes hno he
      gi_wp2_with (first | (gi_at_call 62; refine hCl.mono ?_; rintro e w2 ⟨rfl, hb2⟩) | (gi_at_call 63; refine (hNt _).mono ?_; rintro e w3 ⟨rfl, hb3⟩; have hbb := hb2.trans (hb3.mono hb2.size); have hv3 := boxed_below hv hbb; have hcv3 := hv3.cell; have hB3 := hB.trans (hbb.mono hB.size); have hrow3 := ownsRow_below hrow hbb; have hS3 := boxed_below hS hbb; have hP3 := boxed_below hP hbb) | (gi_at_builtin; refine wpListIn_append_own _ rfl _ _ 22 rfl w1.heap.size 33 i0 (.int .u64 0) 1 8 Try.underlying22 hi hz0 hz1 hz2 rfl (by decide) _ _ _ rfl (hrow3.alloc _) ⟨w3.heap.size, 0, none⟩ 1 1 [.int .u64 ((s1 : Nat) : Int)] rfl rfl (cell_one_new _ _ _) (by simp [Value.oneCell']) (by unfold maxLen; omega) (by omega) (by have := hB3.size; simp; omega) ?_; intro v' w4 hown' hgrow _; obtain ⟨g', cap', rfl⟩ := ownsRow_succ hown'; obtain ⟨hv4, hv5, hr5, hk5, hb5⟩ := hv3.appended (by decide) hrow3 hB3.size (by omega) hown' hgrow; have hc4 := hv4.cell; have hf4 := hv4.frozen; have hS4 := (hS3.alloc _).kept hgrow (hS3.not_row (by decide) hrow3); have hP4 := (hP3.alloc _).kept hgrow (hP3.not_row (by decide) hrow3)))
      have hS5 := hS4.other (B' := w1.heap.size + 1) (by omega) (.slice (some ⟨g', 0, none⟩) (L.length + 1) cap')
      have hP5 := hP4.other (B' := w1.heap.size + 1) (by omega) (.slice (some ⟨g', 0, none⟩) (L.length + 1) cap')
      exact ⟨((keeps_below hbb).trans hk5).from _, KC_of hS hS5, hP5, ⟨_, hv5, by rw [hj.out]; simpa using hr5, trivial⟩, hS5, hB3.trans hb5⟩
    · have hb1_ : (n1 == (x.val : Int)) = false := beq_eq_false_iff_ne.2 he
      have hj := Lib.hid (hno he)
      clear hyes hno he
      gi_wp2_with (gi_at_call 62; refine hCl.mono ?_; rintro e w2 ⟨rfl, hb2⟩)
      gi_wp2_with (gi_at_call 63; refine (hNt _).mono ?_; rintro e w3 ⟨rfl, hb3⟩; have hbb := hb2.trans (hb3.mono hb2.size))
      exact ⟨(keeps_below hbb).from _, KC_of hS (boxed_below hS hbb), boxed_below hP hbb, ⟨v, boxed_below hv hbb, by rw [hj.out]; exact ownsRow_below hrow hbb, trivial⟩, boxed_below hS hbb, hB.trans (hbb.mono hB.size)⟩
  case done =>
    rintro D ys W hD rfl ⟨hP, ⟨v, hv, hrow, -⟩, hS, hB⟩ hK
    have hcv := hv.cell
    gi_wp2
    refine ⟨by simp, .inl ⟨_, _, rfl, run_takeDeferred hK, ?_⟩⟩
    exact ⟨_, results_tmp2 rfl _ _ _, v, rfl, Kd.R_of_own (ownsRow_mono (ownsRow_putObj hrow _ hK rfl) (by omega)) (fun _ _ => trivial), (vbelow_step hb1 hB).trans (belowK_b (w := w) (Nat.le_refl _) W D _ _ (by simp at hD; omega) hK rfl rfl)⟩
  case stop =>
    rintro D c_ pre W _ _ h _
    exact h.elim
set_option maxRecDepth 100000 in
set_option maxHeartbeats 4000000 in
theorem classes_err (A : Option Addr) (c : Nat) (l : List Int) (e0 : Int) (w : World) (hr : Kd.C (Kd.int .u64) w A l.length l) (hc : l.length ≤ c) (hck : lattice_Check.f l = some e0) (he : e0 ≠ 0) :
    Calls Try.prog 39 #[.slice A l.length c] w fun e w' => ∃ v0_ : Value, e = .returned (.tuple #[v0_, .int .i64 e0]) ∧ Kd.R (Kd.int .u64) 33 w' w.heap.size (fun _ => True) v0_ ([] : List Int) ∧ Below w.heap.size w w' := by
  refine (callsIn_wide (n := 9)).1 ?_
  have f16 : Fence.wide.fn 16 := trivial
  have hne : (e0 != 0) = true := bne_iff_ne.2 he
  refine callsIn_of_wp_marks Try.func39 rfl trivial ?_ rfl
  simp only [Try.ntmps39, List.size_toArray, List.length_cons, List.length_nil, Nat.reduceAdd, Nat.reduceSub, Array.replicate_succ, Array.replicate_zero, List.push_toArray, List.append_toArray, List.nil_append, List.cons_append]
  gi_wp2_with (gi_at_call 16; refine ((callsIn_wide (n := 8)).2 (lattice_Check.calls A c l e0 _ hr hc hck)).mono ?_; rintro e w1 ⟨rfl, hb1⟩)
  exact ⟨_, results_tmp2 rfl _ _ _, _, rfl, Kd.R_nil _ _ _ _ _, hb1⟩
def lattice_Classes.f (l : List Int) : Option (List Int × Int) := (lattice_Check.f l).bind fun e => if e = 0 then some (clsTo l (labs l.length l.length), 0) else some ([], e)
theorem lattice_Classes.calls (A0 : Option Addr) (c0 : Nat) (l0 : List Int) (r1 : List Int) (r2 : Int) (w : World) (hr0 : Kd.C (Kd.int .u64) w A0 l0.length l0) (hc0 : l0.length ≤ c0) (h : lattice_Classes.f l0 = some (r1, r2)) :
    Calls Try.prog 39 #[.slice A0 l0.length c0] w fun e w' => ∃ v0_ : Value, e = .returned (.tuple #[v0_, .int .i64 r2]) ∧ Kd.R (Kd.int .u64) 33 w' w.heap.size (fun _ => True) v0_ r1 ∧ Below w.heap.size w w' := by
  unfold lattice_Classes.f at h
  cases hC : lattice_Check.f l0 with
  | none => rw [hC] at h; cases h
  | some e0 =>
    rw [hC, Option.bind_some] at h
    by_cases he : e0 = 0
    · subst he
      rw [if_pos rfl] at h
      simp only [Option.some.injEq, Prod.mk.injEq] at h
      obtain ⟨rfl, rfl⟩ := h
      have hs := check_shape hC
      exact classes_ok A0 c0 l0 w hr0 hc0 (check_okU hC) (shape_zero hs).1 hC
    · rw [if_neg he] at h
      simp only [Option.some.injEq, Prod.mk.injEq] at h
      obtain ⟨rfl, rfl⟩ := h
      exact classes_err A0 c0 l0 e0 w hr0 hc0 hC he
end Go.Proofs.Ytlbjcmiegbejdaa.Q
