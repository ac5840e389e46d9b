/- Layer 1: a set's members as a row; how many; which has so many below it. -/
import Derived.Test.YtlbjcmiegbejdaaB1
import Derived.Test.YtlbjcmiegbejdaaWWords
import Derived.Test.YtlbjcmiegbejdaaWMore
import Derived.Below
import Derived.Laws.IdiomCopy
import Derived.Laws.CopyOwn
import Derived.Deep.MidRow
namespace Go.Proofs.Ytlbjcmiegbejdaa.Q
open Go.RowKit Go.Shelf
attribute [local go_sem] Oper.semAt_some
set_option linter.unusedVariables false
set_option linter.unusedSimpArgs false
open Go.Proofs.YtlbjcmiegbejdaaW.PrintWords Go.Proofs.YtlbjcmiegbejdaaW.PrintMore
theorem infoI : (Try.prog.info? 3).map (fun i => (i.zero, i.size, i.bytes)) = some (some (.int .i64 0), 1, 8) := by kernel_rfl
def vals (l : List (Fin 64)) : List Int := l.map fun x => ((x.val : Nat) : Int)
theorem vals_len (l : List (Fin 64)) : (vals l).length = l.length := by simp [vals]
theorem vals_snoc (l : List (Fin 64)) (x : Fin 64) : vals (l ++ [x]) = vals l ++ [((x.val : Nat) : Int)] := by simp [vals]
set_option maxRecDepth 100000 in
set_option maxHeartbeats 2000000 in
theorem list_in (F : Fence) (n : Nat) (hf : F.fn 46) (hfa : F.fn 71) (hf1 : F.fn 77) (hfh : F.fn 76) (hfo : F.fn 75) (hro : F.round = none) (hn : 5 ≤ n) (s : Nat) (hs : s < 2 ^ 64) (w : World) :
    CallsIn F n Try.prog 46 #[.int .u64 s] w fun e W' => ∃ v, e = .returned v ∧ Kd.R (Kd.int .i64) 3 W' w.heap.size (fun _ => True) v (vals (pfx s 64)) ∧ Below w.heap.size w W' := by
  have h1 : 1 ≤ n := by omega
  obtain ⟨i0, hi, hz0, hz1, hz2⟩ := info_parts infoI
  refine callsIn_of_wp_marks Try.func46 rfl hf ?_ hro
  simp only [Try.ntmps46, List.size_toArray, List.length_cons, List.length_nil, Nat.reduceAdd, Nat.reduceSub, Array.replicate_succ, Array.replicate_zero, List.push_toArray, List.append_toArray, List.nil_append, List.cons_append]
  gi_wp2_with (gi_at_call 71; refine (all_in F (n - 1) hfa hro _ _).mono ?_; rintro e w' ⟨rfl, rfl⟩)
  have bO := Boxed.new w 54 (.slice none 0 0)
  have bS := Boxed.new (w.alloc (.cells #[.slice none 0 0] 54)) 33 (.int .u64 s)
  rw [World.size_alloc] at bS
  have hB0 : Below w.heap.size w ((w.alloc (.cells #[.slice none 0 0] 54)).alloc (.cells #[.int .u64 s] 33)) := ((Below.refl _ w).alloc (Nat.le_refl _) _).alloc (by simp) _
  refine wpIn_rangeFunc_ownG hro (by omega) (gf := 77) (lb := #[.pointer (some ⟨w.heap.size + 1, 0, none⟩)]) rfl hf1 (enters_of Try.func77 (by kernel_rfl) rfl)
    (all_stops F (n - 1) hf1 hfh hfo hro (by omega) (w.heap.size + 1) s hs _ (by simp) bS.cell) KC_t (KC_b (by simp)) (Below.refl _ _) (fun _ => rfl)
    (fun pre W => (∃ v, Boxed W w.heap.size 54 v ∧ W.ownsRow w.heap.size 3 1 v (vals pre).length ((vals pre).map (Value.int .i64)) ∧ True) ∧ Boxed W (w.heap.size + 1) 33 (.int .u64 s) ∧ Below w.heap.size w W)
    (fun _ _ _ => False)
    (OwnFrom.and (Own.from (holdsRow_own w.heap.size w.heap.size 54 3 1 (fun pre => (vals pre).length) (fun pre => (vals pre).map (Value.int .i64)) (fun pre v => True)) _) (OwnFrom.and (Own.from (boxed_own (w.heap.size + 1) 33 (fun _ => .int .u64 s)) _) (ownFrom_below (Nat.le_refl _) (by simp; omega))))
    (fun _ _ _ _ _ hs _ _ => hs)
    ⟨⟨_, bO.alloc _, World.ownsRow_nil _ _ _ _, trivial⟩, bS, hB0⟩
    (fun x => { tmps := #[.int .u64 s, undef, .slice none 0 0, .pointer (some ⟨w.heap.size, 0, none⟩), .int .i64 ((x : Fin 64).val : Nat), .int .u64 s, .func (.func 77) #[] #[.pointer (some ⟨w.heap.size + 1, 0, none⟩)], .int .i64 (x.val : Nat), undef, undef, undef, undef, undef], defers := [] }) ?assign ?body ?done ?stop
  case assign =>
    intro l x W K hK
    gi_wp2
    exact hK
  case body =>
    rintro l pre x W ⟨⟨v, hv, hrow, -⟩, hS, hB⟩ hlt
    have hc := hv.cell
    have hpl : (vals pre).length ≤ pre.length := Nat.le_of_eq (vals_len pre)
    have hxp := x.2
    gi_wp2_with (gi_at_builtin; refine wpListIn_append_own _ rfl _ _ 54 rfl w.heap.size 3 i0 (.int .i64 0) 1 8 Try.underlying54 hi hz0 hz1 hz2 rfl (by decide) _ _ _ rfl (hrow.alloc _) ⟨W.heap.size, 0, none⟩ 1 1 [.int .i64 ((x.val : Nat) : Int)] rfl rfl (cell_one_new _ _ _) (by simp [Value.oneCell']) (by unfold maxLen; omega) (by omega) (by have := hB.size; simp; omega) ?_; intro v' w1 hown' hgrow _; obtain ⟨g', cap', rfl⟩ := ownsRow_succ hown'; obtain ⟨hv1, hv2, hr2, hk2, hb2⟩ := hv.appended (by decide) hrow hB.size (Nat.le_refl _) hown' hgrow; have hc1 := hv1.cell; have hf1 := hv1.frozen; have hS1 := (hS.alloc _).kept hgrow (hS.not_row (by decide) hrow))
    have hS2 := hS1.other (B' := w.heap.size) (by omega) (.slice (some ⟨g', 0, none⟩) ((vals pre).length + 1) cap')
    exact ⟨hk2.from _, KC_of hS hS2, ⟨_, hv2, by rw [vals_snoc]; simpa using hr2, trivial⟩, hS2, hB.trans hb2⟩
  case done =>
    rintro D ys W hD rfl ⟨⟨v, hv, hrow, -⟩, hS, hB⟩ hK
    have hc := hv.cell
    gi_wp2
    refine ⟨by simp, .inl ⟨_, _, rfl, run_takeDeferred hK, ?_⟩⟩
    exact ⟨_, results_tmp rfl _ _ _, v, rfl, Kd.R_of_own (ownsRow_putObj hrow _ hK rfl) (fun _ _ => trivial), hB.trans (belowK_b (w := w) (Nat.le_refl _) W D _ _ (by simp at hD; omega) hK rfl rfl)⟩
  case stop =>
    rintro D c pre W _ _ h _
    exact h.elim
/-- The member with k below it. -/
def nthR (l : List (Fin 64)) (k : Int) : Int × Bool := if 0 ≤ k then (match l[k.toNat]? with | some x => (((x.val : Nat) : Int), true) | none => (0, false)) else (0, false)
theorem nthR_hit {l q : List (Fin 64)} {x : Fin 64} {k : Int} (h : q ++ [x] <+: l) (hk : (q.length : Int) = k) : nthR l k = (((x.val : Nat) : Int), true) := by
  subst hk
  obtain ⟨t, rfl⟩ := h
  have e : (q ++ [x] ++ t)[(q.length : Int).toNat]? = some x := by simp
  unfold nthR
  rw [if_pos (by omega), e]
theorem nthR_miss {l : List (Fin 64)} {k : Int} (h : k < 0 ∨ (l.length : Int) ≤ k) : nthR l k = (0, false) := by
  unfold nthR
  split
  · rw [List.getElem?_eq_none (by omega)]
  · rfl
theorem wrap_dec (k : Int) (m : Nat) : wrap64 (wrap64 (k - (m : Int)) - 1) = wrap64 (k - ((m + 1 : Nat) : Int)) := by unfold wrap64; omega
theorem wrap_test {k : Int} {m : Nat} (h0 : -9223372036854775808 ≤ k) (h1 : k < 9223372036854775808) (hm : m ≤ 64) : (wrap64 (k - (m : Int)) == 0) = decide (k = (m : Int)) := by
  rw [Bool.eq_iff_iff, beq_iff_eq, decide_eq_true_iff]
  unfold wrap64
  omega
theorem wrap_start {k : Int} (h0 : -9223372036854775808 ≤ k) (h1 : k < 9223372036854775808) : wrap64 (k - ((0 : Nat) : Int)) = k := by unfold wrap64; omega
set_option maxRecDepth 100000 in
set_option maxHeartbeats 2000000 in
theorem nth_in (F : Fence) (n : Nat) (hf : F.fn 63) (hfa : F.fn 71) (hf1 : F.fn 77) (hfh : F.fn 76) (hfo : F.fn 75) (hro : F.round = none) (hn : 6 ≤ n) (s : Nat) (hs : s < 2 ^ 64) (k : Int) (h0 : -9223372036854775808 ≤ k) (h1k : k < 9223372036854775808) (w : World) :
    CallsIn F n Try.prog 63 #[.int .u64 s, .int .i64 k] w fun e W' => e = .returned (.tuple #[.int .i64 (nthR (pfx s 64) k).1, .bool (nthR (pfx s 64) k).2]) ∧ Below w.heap.size w W' := by
  have h1 : 1 ≤ n := by omega
  have bK := Boxed.new w 3 (.int .i64 k)
  refine callsIn_of_wp_marks Try.func63 rfl hf ?_ hro
  simp only [Try.ntmps63, List.size_toArray, List.length_cons, List.length_nil, Nat.reduceAdd, Nat.reduceSub, Array.replicate_succ, Array.replicate_zero, List.push_toArray, List.append_toArray, List.nil_append, List.cons_append]
  gi_wp2_with (gi_at_call 71; refine (all_in F (n - 1) hfa hro _ _).mono ?_; rintro e w' ⟨rfl, rfl⟩)
  have bR := Boxed.new (w.alloc (.cells #[.int .i64 k] 3)) 3 (.int .i64 0)
  have bT := Boxed.new ((w.alloc (.cells #[.int .i64 k] 3)).alloc (.cells #[.int .i64 0] 3)) 4 (.bool false)
  have bS := Boxed.new (((w.alloc (.cells #[.int .i64 k] 3)).alloc (.cells #[.int .i64 0] 3)).alloc (.cells #[.bool false] 4)) 33 (.int .u64 s)
  simp only [World.size_alloc] at bR bT bS
  have hB0 : Below w.heap.size w ((((w.alloc (.cells #[.int .i64 k] 3)).alloc (.cells #[.int .i64 0] 3)).alloc (.cells #[.bool false] 4)).alloc (.cells #[.int .u64 s] 33)) := ((((Below.refl _ w).alloc (Nat.le_refl _) _).alloc (by simp) _).alloc (by simp; omega) _).alloc (by simp; omega) _
  refine wpIn_rangeFunc_ownG hro (by omega) (gf := 77) (lb := #[.pointer (some ⟨w.heap.size + 1 + 1 + 1, 0, none⟩)]) rfl hf1 (enters_of Try.func77 (by kernel_rfl) rfl)
    (all_stops F (n - 1) hf1 hfh hfo hro (by omega) (w.heap.size + 1 + 1 + 1) s hs _ (by simp) bS.cell) KC_t (KC_b (by simp)) (Below.refl _ _) (fun _ => rfl)
    (fun pre W => (Boxed W w.heap.size 3 (.int .i64 (wrap64 (k - (pre.length : Int)))) ∧ Boxed W (w.heap.size + 1) 3 (.int .i64 0) ∧ Boxed W (w.heap.size + 1 + 1) 4 (.bool false) ∧ Boxed W (w.heap.size + 1 + 1 + 1) 33 (.int .u64 s) ∧ (k < 0 ∨ (pre.length : Int) ≤ k)) ∧ Below w.heap.size w W)
    (fun c pre W => (c = .ret ∧ ∃ q x, pre = q ++ [x] ∧ (q.length : Int) = k ∧ Boxed W (w.heap.size + 1) 3 (.int .i64 ((x.val : Nat) : Int)) ∧ Boxed W (w.heap.size + 1 + 1) 4 (.bool true)) ∧ Below w.heap.size w W)
    (OwnFrom.and (Own.from (fun pre A B row hs hg hr => ⟨boxed_own _ _ (fun pre : List (Fin 64) => .int .i64 (wrap64 (k - (pre.length : Int)))) pre A B row hs.1 hg hr, boxed_own _ _ (fun _ => .int .i64 0) pre A B row hs.2.1 hg hr, boxed_own _ _ (fun _ => .bool false) pre A B row hs.2.2.1 hg hr, boxed_own _ _ (fun _ => .int .u64 s) pre A B row hs.2.2.2.1 hg hr, hs.2.2.2.2⟩) _) (ownFrom_below (Nat.le_refl _) (by simp; omega)))
    (fun c => OwnFrom.and (Own.from (fun pre A B row hs hg hr => by obtain ⟨hc, q, x, hp, hq, b1, b2⟩ := hs; exact ⟨hc, q, x, hp, hq, boxed_own _ _ (fun _ => .int .i64 ((x.val : Nat) : Int)) pre A B row b1 hg hr, boxed_own _ _ (fun _ => .bool true) pre A B row b2 hg hr⟩) _) (ownFrom_below (Nat.le_refl _) (by simp; omega)))
    ⟨⟨by rw [show (([] : List (Fin 64)).length : Int) = ((0 : Nat) : Int) from rfl, wrap_start h0 h1k]; exact ((bK.alloc _).alloc _).alloc _, (bR.alloc _).alloc _, bT.alloc _, bS, by (by_cases h : k < 0; exact .inl h; exact .inr (by simp; omega))⟩, hB0⟩
    (fun x => { tmps := #[.int .u64 s, .int .i64 k, undef, .pointer (some ⟨w.heap.size, 0, none⟩), .pointer (some ⟨w.heap.size + 1, 0, none⟩), .pointer (some ⟨w.heap.size + 1 + 1, 0, none⟩), .int .i64 ((x : Fin 64).val : Nat), .int .u64 s, .func (.func 77) #[] #[.pointer (some ⟨w.heap.size + 1 + 1 + 1, 0, none⟩)], .int .i64 (x.val : Nat), undef, undef, undef, undef, undef], defers := [] }) ?assign ?body ?done ?stop
  case assign =>
    intro l x W K hK
    gi_wp2
    exact hK
  case body =>
    rintro l pre x W ⟨⟨hK, hR, hT, hS, hno⟩, hB⟩ hlt
    have hcK := hK.cell
    have hcR := hR.cell
    have hcT := hT.cell
    have hfK := hK.frozen
    have hfR := hR.frozen
    have hfT := hT.frozen
    have hsz : w.heap.size + 1 + 1 + 1 < W.heap.size := hS.lt
    have ht := wrap_test (k := k) (m := pre.length) h0 h1k (by omega)
    have hd := wrap_dec k pre.length
    have HD := Lib.hid hd
    clear hd
    by_cases hkm : k = (pre.length : Int)
    · rw [decide_eq_true hkm] at ht
      have HK := Lib.hid hkm
      clear hkm
      gi_wp2
      have R2 := (hR.set (.int .i64 ((x.val : Nat) : Int))).other (B' := w.heap.size + 1 + 1) (by omega) (.bool true)
      have T2 := (hT.other (B' := w.heap.size + 1) (by omega) (.int .i64 ((x.val : Nat) : Int))).set (.bool true)
      exact ⟨((KeepsOthers.setCell _ _ _).trans (KeepsOthers.setCell _ _ _)).from _, ⟨rfl, pre, x, rfl, HK.out.symm, R2, T2⟩, (hB.setCell (p := ⟨w.heap.size + 1, 0, none⟩) (by simp) _).setCell (p := ⟨w.heap.size + 1 + 1, 0, none⟩) (by simp; omega) _⟩
    · rw [decide_eq_false hkm] at ht
      gi_wp2
      have K2 := hK.set (.int .i64 (wrap64 (wrap64 (k - (pre.length : Int)) - 1)))
      have R2 := hR.other (B' := w.heap.size) (by omega) (.int .i64 (wrap64 (wrap64 (k - (pre.length : Int)) - 1)))
      have T2 := hT.other (B' := w.heap.size) (by omega) (.int .i64 (wrap64 (wrap64 (k - (pre.length : Int)) - 1)))
      have S2 := hS.other (B' := w.heap.size) (by omega) (.int .i64 (wrap64 (wrap64 (k - (pre.length : Int)) - 1)))
      refine ⟨(KeepsOthers.setCell _ _ _).from _, KC_of hS S2, ⟨?_, R2, T2, S2, ?_⟩, hB.setCell (p := ⟨w.heap.size, 0, none⟩) (by simp) _⟩
      · rw [HD.out] at K2 ⊢
        rw [List.length_append, List.length_singleton]
        exact K2
      · rw [List.length_append, List.length_singleton]; omega
  case done =>
    rintro D ys W hD rfl ⟨⟨hK, hR, hT, hS, hno⟩, hB⟩ hKD
    have hcR := hR.cell
    have hcT := hT.cell
    have hfR := hR.frozen
    have hfT := hT.frozen
    gi_wp2
    have hK1 := (KeepsOthers.setCell W ⟨w.heap.size + 1, 0, none⟩ (.int .i64 0)).same D _ hKD rfl
    have hK2 := (KeepsOthers.setCell (W.setCell ⟨w.heap.size + 1, 0, none⟩ (.int .i64 0)) ⟨w.heap.size + 1 + 1, 0, none⟩ (.bool false)).same D _ hK1 rfl
    have R2 := (hR.set (.int .i64 0)).other (B' := w.heap.size + 1 + 1) (by omega) (.bool false)
    have T2 := (hT.other (B' := w.heap.size + 1) (by omega) (.int .i64 0)).set (.bool false)
    refine ⟨by simp, .inl ⟨_, _, rfl, run_takeDeferred hK2, ?_⟩⟩
    have c1 := cell_kept R2.cell (grownBy_putObj' _ D (.deferred none)) (fun r e => by cases e; exact ⟨_, hK2, rfl⟩)
    have c2 := cell_kept T2.cell (grownBy_putObj' _ D (.deferred none)) (fun r e => by cases e; exact ⟨_, hK2, rfl⟩)
    refine ⟨.tuple #[.int .i64 0, .bool false], ?_, by rw [nthR_miss hno], ((hB.setCell (p := ⟨w.heap.size + 1, 0, none⟩) (by simp) _).setCell (p := ⟨w.heap.size + 1 + 1, 0, none⟩) (by simp; omega) _).trans (belowK_b (w := w) (Nat.le_refl _) _ D _ _ (by simp at hD; omega) hK2 rfl rfl)⟩
    simp [results, Try.f63, go_sem, c1, c2]
  case stop =>
    rintro D c pre W hD hpre ⟨⟨rfl, q, x, rfl, hq, R2, T2⟩, hB⟩ hKD
    gi_wp2
    refine ⟨by simp, .inl ⟨_, _, rfl, run_takeDeferred hKD, ?_⟩⟩
    have c1 := cell_kept R2.cell (grownBy_putObj' _ D (.deferred none)) (fun r e => by cases e; exact ⟨_, hKD, rfl⟩)
    have c2 := cell_kept T2.cell (grownBy_putObj' _ D (.deferred none)) (fun r e => by cases e; exact ⟨_, hKD, rfl⟩)
    refine ⟨.tuple #[.int .i64 ((x.val : Nat) : Int), .bool true], ?_, by rw [nthR_hit hpre hq], hB.trans (belowK_b (w := w) (Nat.le_refl _) W D _ _ (by simp at hD; omega) hKD rfl rfl)⟩
    simp [results, Try.f63, go_sem, c1, c2]
end Go.Proofs.Ytlbjcmiegbejdaa.Q

/- Words on a block that holds a relation: 64 rows, and how many there are. -/
namespace Go.Proofs.Ytlbjcmiegbejdaa.Q
open Go.RowKit Go.Shelf
set_option linter.unusedVariables false
set_option linter.unusedSimpArgs false
/-- A relation's cells. -/
def mcells (R : Nat → Nat) (n : Nat) : List Value := (List.range 64).map (fun i => Value.int .u64 ((R i : Nat) : Int)) ++ [Value.int .i64 ((n : Nat) : Int)]
theorem mcells_len (R : Nat → Nat) (n : Nat) : (mcells R n).length = 65 := by simp [mcells]
theorem mcells_at (R : Nat → Nat) (n i : Nat) (hi : i < 64) : (mcells R n)[i]? = some (.int .u64 ((R i : Nat) : Int)) := by
  unfold mcells
  rw [List.getElem?_append_left (by simpa using hi), List.getElem?_map, List.getElem?_range hi]
  rfl
theorem mcells_n (R : Nat → Nat) (n : Nat) : (mcells R n)[64]? = some (.int .i64 ((n : Nat) : Int)) := by
  unfold mcells
  rw [List.getElem?_append_right (by simp)]
  simp
theorem mcells_one (R : Nat → Nat) (n : Nat) : ∀ v ∈ mcells R n, v.oneCell' = true := by
  intro v hv
  simp only [mcells, List.mem_append, List.mem_map, List.mem_singleton] at hv
  rcases hv with ⟨i, _, rfl⟩ | rfl <;> rfl
theorem mcells_ext {R S : Nat → Nat} (h : ∀ i, i < 64 → R i = S i) (n : Nat) : mcells R n = mcells S n := by
  unfold mcells
  congr 1
  exact List.map_congr_left fun i hi => by rw [h i (List.mem_range.1 hi)]
def upd (R : Nat → Nat) (i v : Nat) : Nat → Nat := fun k => if k = i then v else R k
theorem mcells_set (R : Nat → Nat) (n i v : Nat) (hi : i < 64) : (mcells R n).set i (.int .u64 ((v : Nat) : Int)) = mcells (upd R i v) n := by
  apply List.ext_getElem?
  intro j
  rw [List.getElem?_set]
  by_cases hj : i = j
  · subst hj
    rw [if_pos rfl, if_pos (by rw [mcells_len]; omega), mcells_at _ _ _ hi]
    have e : upd R i v i = v := by unfold upd; rw [if_pos rfl]
    rw [e]
  · rw [if_neg hj]
    by_cases h64 : j < 64
    · rw [mcells_at _ _ _ h64, mcells_at _ _ _ h64]
      simp [upd, show ¬ j = i by omega]
    · by_cases he : j = 64
      · subst he; rw [mcells_n, mcells_n]
      · rw [List.getElem?_eq_none (by rw [mcells_len]; omega), List.getElem?_eq_none (by rw [mcells_len]; omega)]
theorem mcells_setn (R : Nat → Nat) (n m : Nat) : (mcells R n).set 64 (.int .i64 ((m : Nat) : Int)) = mcells R m := by
  apply List.ext_getElem?
  intro j
  rw [List.getElem?_set]
  by_cases hj : 64 = j
  · subst hj
    rw [if_pos rfl, if_pos (by rw [mcells_len]; omega)]
    exact (mcells_n R m).symm
  · rw [if_neg hj]
    by_cases h64 : j < 64
    · rw [mcells_at _ _ _ h64, mcells_at _ _ _ h64]
    · rw [List.getElem?_eq_none (by rw [mcells_len]; omega), List.getElem?_eq_none (by rw [mcells_len]; omega)]
/-- Block b holds a relation. -/
def MatAt (W : World) (b : Nat) (R : Nat → Nat) (n : Nat) : Prop := W.heap[b]? = some (.cells (mcells R n).toArray 83 (0, 0))
theorem MatAt.lt {W : World} {b n : Nat} {R : Nat → Nat} (h : MatAt W b R n) : b < W.heap.size := (Array.getElem?_eq_some_iff.1 h).1
theorem MatAt.cell {W : World} {b n : Nat} {R : Nat → Nat} (h : MatAt W b R n) (i : Nat) (hi : i < 64) : W.cell? ⟨b, i, none⟩ = some (.int .u64 ((R i : Nat) : Int)) := by
  unfold World.cell?
  rw [show W.heap[b]? = _ from h]
  simpa using mcells_at R n i hi
theorem MatAt.num {W : World} {b n : Nat} {R : Nat → Nat} (h : MatAt W b R n) : W.cell? ⟨b, 64, none⟩ = some (.int .i64 ((n : Nat) : Int)) := by
  unfold World.cell?
  rw [show W.heap[b]? = _ from h]
  simpa using mcells_n R n
theorem MatAt.frozen {W : World} {b n : Nat} {R : Nat → Nat} (h : MatAt W b R n) (o : Nat) : W.frozen? ⟨b, o, none⟩ = false := by
  unfold World.frozen?
  rw [show W.heap[b]? = _ from h]
  simp
theorem MatAt.range {W : World} {b n : Nat} {R : Nat → Nat} (h : MatAt W b R n) : W.rangeAt b 0 (mcells R n) := fun j v hv => by
  unfold World.cell?
  rw [show W.heap[b]? = _ from h]
  simpa using hv
theorem MatAt.there {W : World} {b n : Nat} {R : Nat → Nat} (h : MatAt W b R n) : W.there b 0 65 := fun j hj => by
  refine ⟨?_, by simpa using h.frozen (0 + j)⟩
  unfold World.cell?
  rw [show W.heap[b]? = _ from h]
  simp [mcells_len, hj]
theorem MatAt.kept {W W' : World} {row : Option Nat} {b n : Nat} {R : Nat → Nat} (h : MatAt W b R n) (hg : W.grownBy W' row) (hne : some b ≠ row) : MatAt W' b R n := (hg.block b h.lt hne).trans h
theorem MatAt.alloc {W : World} {b n : Nat} {R : Nat → Nat} (h : MatAt W b R n) (o : Obj) : MatAt (W.alloc o) b R n := h.kept (World.grownBy_alloc W o none) (by simp)
theorem MatAt.below {W W' : World} {b n : Nat} {R : Nat → Nat} (h : MatAt W b R n) (hb : Below W.heap.size W W') : MatAt W' b R n := (hb.block b h.lt).trans h
theorem MatAt.drew {W : World} {b n : Nat} {R : Nat → Nat} (h : MatAt W b R n) : MatAt W.drew b R n := h
theorem MatAt.new (W : World) (R : Nat → Nat) (n : Nat) : MatAt (W.alloc (.cells (mcells R n).toArray 83)) W.heap.size R n := World.alloc_heap_new W _
theorem MatAt.other {W : World} {b B n : Nat} {R : Nat → Nat} (h : MatAt W b R n) (hne : b ≠ B) (o : Nat) (u : Value) : MatAt (W.setCell ⟨B, o, none⟩ u) b R n := (Below.heap_setCell W ⟨B, o, none⟩ u b hne).trans h
theorem heap_setCell_in {W : World} {b o : Nat} {cs : Array Value} {t : TypeId} (h : W.heap[b]? = some (.cells cs t (0, 0))) (v : Value) : (W.setCell ⟨b, o, none⟩ v).heap[b]? = some (.cells (cs.setIfInBounds o v) t (0, 0)) := by
  obtain ⟨hlt, hk⟩ := Array.getElem?_eq_some_iff.1 h
  show (W.heap.modify b _)[b]? = _
  rw [Array.getElem?_eq_getElem (by rw [Array.size_modify]; exact hlt), Array.getElem_modify_self, hk]
  rfl
theorem MatAt.set {W : World} {b n : Nat} {R : Nat → Nat} (h : MatAt W b R n) (i v : Nat) (hi : i < 64) : MatAt (W.setCell ⟨b, i, none⟩ (.int .u64 ((v : Nat) : Int))) b (upd R i v) n := by
  refine (heap_setCell_in h _).trans ?_
  rw [List.setIfInBounds_toArray, mcells_set R n i v hi]
theorem MatAt.setn {W : World} {b n : Nat} {R : Nat → Nat} (h : MatAt W b R n) (m : Nat) : MatAt (W.setCell ⟨b, 64, none⟩ (.int .i64 ((m : Nat) : Int))) b R m := by
  refine (heap_setCell_in h _).trans ?_
  rw [List.setIfInBounds_toArray, mcells_setn]
theorem heap_setCells_in {b : Nat} {t : TypeId} : ∀ (vs : List Value) (o : Nat) (W : World) (cs : List Value), W.heap[b]? = some (.cells cs.toArray t (0, 0)) → o + vs.length ≤ cs.length →
    (W.setCells b o vs).heap[b]? = some (.cells (cs.take o ++ vs ++ cs.drop (o + vs.length)).toArray t (0, 0))
  | [], o, W, cs, h, hl => by simpa [World.setCells] using h
  | v :: r, o, W, cs, h, hl => by
    have h1 := heap_setCell_in (o := o) h v
    rw [List.setIfInBounds_toArray] at h1
    have h2 := heap_setCells_in r (o + 1) _ _ h1 (by simp at hl ⊢; omega)
    rw [World.setCells, h2]
    have hlt : o < cs.length := by simp at hl; omega
    have e : cs.set o v = cs.take o ++ v :: cs.drop (o + 1) := by rw [List.set_eq_take_append_cons_drop, if_pos hlt]
    have hto : (cs.take o).length = o := by simp; omega
    have e1 : (cs.set o v).take (o + 1) = cs.take o ++ [v] := by
      rw [e, List.take_append, hto, List.take_of_length_le (by omega)]
      simp
    have e2 : (cs.set o v).drop (o + 1 + r.length) = cs.drop (o + (v :: r).length) := by
      rw [List.drop_set_of_lt (by omega)]
      congr 1
      simp; omega
    rw [e1, e2]
    simp
theorem grownBy_setCells {b : Nat} : ∀ (vs : List Value) (o : Nat) (W : World), W.grownBy (W.setCells b o vs) (some b)
  | [], o, W => ⟨rfl, rfl, rfl, Nat.le_refl _, fun _ _ _ => rfl⟩
  | v :: r, o, W => by
    have h := grownBy_setCells (b := b) r (o + 1) (W.setCell ⟨b, o, none⟩ v)
    refine ⟨h.os, h.tape, h.output, ?_, fun k hk hne => ?_⟩
    · have := h.size
      simpa [World.size_setCell, World.setCells] using this
    · have hk' : k ≠ b := fun e => hne (by rw [e])
      exact (h.block k (by simpa [World.size_setCell] using hk) hne).trans (Below.heap_setCell W ⟨b, o, none⟩ v k hk')
theorem MatAt.store {W : World} {b n m : Nat} {R S : Nat → Nat} (h : MatAt W b R n) : MatAt (W.setCells b 0 (mcells S m)) b S m := by
  have h_ := heap_setCells_in (mcells S m) 0 W (mcells R n) h (by rw [mcells_len, mcells_len]; omega)
  refine h_.trans ?_
  rw [List.take_zero, mcells_len, List.drop_of_length_le (by rw [mcells_len]; omega)]
  simp
theorem MatAt.apart {W : World} {b B n : Nat} {R : Nat → Nat} (h : MatAt W b R n) (hne : b ≠ B) (o : Nat) (vs : List Value) : MatAt (W.setCells B o vs) b R n :=
  h.kept (grownBy_setCells vs o W) (fun e => hne (by simpa using e))
theorem below_setCells {B : Nat} {w W : World} (hb : Below B w W) (hB : B ≤ W.heap.size) {b : Nat} (h : B ≤ b) (o : Nat) (vs : List Value) : Below B w (W.setCells b o vs) :=
  hb.grown (grownBy_setCells vs o W) hB (fun k e => by cases e; exact h)
end Go.Proofs.Ytlbjcmiegbejdaa.Q
