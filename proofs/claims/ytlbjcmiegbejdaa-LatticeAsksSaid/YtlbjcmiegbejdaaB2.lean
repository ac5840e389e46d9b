/- Layer 1: a set's members as a row; how many; which has so many below it. -/
import Derived.Test.YtlbjcmiegbejdaaB1
import Derived.Test.YtlbjcmiegbejdaaWWords
import Derived.Test.YtlbjcmiegbejdaaWMore
import Derived.Below
namespace Go.Proofs.Ytlbjcmiegbejdaa.Q
open Go.RowKit Go.Shelf
attribute [local go_sem] Oper.semAt_some
set_option linter.unusedVariables false
set_option linter.unusedSimpArgs false
open Go.Proofs.YtlbjcmiegbejdaaW.PrintWords Go.Proofs.YtlbjcmiegbejdaaW.PrintMore
theorem infoI : (Try.prog.info? 3).map (fun i => (i.zero, i.size, i.bytes)) = some (some (.int .i64 0), 1, 8) := by kernel_rfl
def vals (l : List (Fin 64)) : List Int := l.map fun x => ((x.val : Nat) : Int)
theorem vals_len (l : List (Fin 64)) : (vals l).length = l.length := by simp [vals]
theorem vals_snoc (l : List (Fin 64)) (x : Fin 64) : vals (l ++ [x]) = vals l ++ [((x.val : Nat) : Int)] := by simp [vals]
set_option maxRecDepth 100000 in
set_option maxHeartbeats 2000000 in
theorem list_in (F : Fence) (n : Nat) (hf : F.fn 46) (hfa : F.fn 71) (hf1 : F.fn 77) (hfh : F.fn 76) (hfo : F.fn 75) (hro : F.round = none) (hn : 5 ≤ n) (s : Nat) (hs : s < 2 ^ 64) (w : World) :
    CallsIn F n Try.prog 46 #[.int .u64 s] w fun e W' => ∃ v, e = .returned v ∧ Kd.R (Kd.int .i64) 3 W' w.heap.size (fun _ => True) v (vals (pfx s 64)) ∧ Below w.heap.size w W' := by
  have h1 : 1 ≤ n := by omega
  obtain ⟨i0, hi, hz0, hz1, hz2⟩ := info_parts infoI
  refine callsIn_of_wp_marks Try.func46 rfl hf ?_ hro
  simp only [Try.ntmps46, List.size_toArray, List.length_cons, List.length_nil, Nat.reduceAdd, Nat.reduceSub, Array.replicate_succ, Array.replicate_zero, List.push_toArray, List.append_toArray, List.nil_append, List.cons_append]
  gi_wp2_with (gi_at_call 71; refine (all_in F (n - 1) hfa hro _ _).mono ?_; rintro e w' ⟨rfl, rfl⟩)
  have bO := Boxed.new w 54 (.slice none 0 0)
  have bS := Boxed.new (w.alloc (.cells #[.slice none 0 0] 54)) 33 (.int .u64 s)
  rw [World.size_alloc] at bS
  have hB0 : Below w.heap.size w ((w.alloc (.cells #[.slice none 0 0] 54)).alloc (.cells #[.int .u64 s] 33)) := ((Below.refl _ w).alloc (Nat.le_refl _) _).alloc (by simp) _
  refine wpIn_rangeFunc_ownG hro (by omega) (gf := 77) (lb := #[.pointer (some ⟨w.heap.size + 1, 0, none⟩)]) rfl hf1 (enters_of Try.func77 (by kernel_rfl) rfl)
    (all_stops F (n - 1) hf1 hfh hfo hro (by omega) (w.heap.size + 1) s hs _ (by simp) bS.cell) KC_t (KC_b (by simp)) (Below.refl _ _) (fun _ => rfl)
    (fun pre W => (∃ v, Boxed W w.heap.size 54 v ∧ W.ownsRow w.heap.size 3 1 v (vals pre).length ((vals pre).map (Value.int .i64)) ∧ True) ∧ Boxed W (w.heap.size + 1) 33 (.int .u64 s) ∧ Below w.heap.size w W)
    (fun _ _ _ => False)
    (OwnFrom.and (Own.from (holdsRow_own w.heap.size w.heap.size 54 3 1 (fun pre => (vals pre).length) (fun pre => (vals pre).map (Value.int .i64)) (fun pre v => True)) _) (OwnFrom.and (Own.from (boxed_own (w.heap.size + 1) 33 (fun _ => .int .u64 s)) _) (ownFrom_below (Nat.le_refl _) (by simp; omega))))
    (fun _ _ _ _ _ hs _ _ => hs)
    ⟨⟨_, bO.alloc _, World.ownsRow_nil _ _ _ _, trivial⟩, bS, hB0⟩
    (fun x => { tmps := #[.int .u64 s, undef, .slice none 0 0, .pointer (some ⟨w.heap.size, 0, none⟩), .int .i64 ((x : Fin 64).val : Nat), .int .u64 s, .func (.func 77) #[] #[.pointer (some ⟨w.heap.size + 1, 0, none⟩)], .int .i64 (x.val : Nat), undef, undef, undef, undef, undef], defers := [] }) ?assign ?body ?done ?stop
  case assign =>
    intro l x W K hK
    gi_wp2
    exact hK
  case body =>
    rintro l pre x W ⟨⟨v, hv, hrow, -⟩, hS, hB⟩ hlt
    have hc := hv.cell
    have hpl : (vals pre).length ≤ pre.length := Nat.le_of_eq (vals_len pre)
    have hxp := x.2
    gi_wp2_with (gi_at_builtin; refine wpListIn_append_own _ rfl _ _ 54 rfl w.heap.size 3 i0 (.int .i64 0) 1 8 Try.underlying54 hi hz0 hz1 hz2 rfl (by decide) _ _ _ rfl (hrow.alloc _) ⟨W.heap.size, 0, none⟩ 1 1 [.int .i64 ((x.val : Nat) : Int)] rfl rfl (cell_one_new _ _ _) (by simp [Value.oneCell']) (by unfold maxLen; omega) (by omega) (by have := hB.size; simp; omega) ?_; intro v' w1 hown' hgrow _; obtain ⟨g', cap', rfl⟩ := ownsRow_succ hown'; obtain ⟨hv1, hv2, hr2, hk2, hb2⟩ := hv.appended (by decide) hrow hB.size (Nat.le_refl _) hown' hgrow; have hc1 := hv1.cell; have hf1 := hv1.frozen; have hS1 := (hS.alloc _).kept hgrow (hS.not_row (by decide) hrow))
    have hS2 := hS1.other (B' := w.heap.size) (by omega) (.slice (some ⟨g', 0, none⟩) ((vals pre).length + 1) cap')
    exact ⟨hk2.from _, KC_of hS hS2, ⟨_, hv2, by rw [vals_snoc]; simpa using hr2, trivial⟩, hS2, hB.trans hb2⟩
  case done =>
    rintro D ys W hD rfl ⟨⟨v, hv, hrow, -⟩, hS, hB⟩ hK
    have hc := hv.cell
    gi_wp2
    refine ⟨by simp, .inl ⟨_, _, rfl, run_takeDeferred hK, ?_⟩⟩
    exact ⟨_, results_tmp rfl _ _ _, v, rfl, Kd.R_of_own (ownsRow_putObj hrow _ hK rfl) (fun _ _ => trivial), hB.trans (belowK_b (w := w) (Nat.le_refl _) W D _ _ (by simp at hD; omega) hK rfl rfl)⟩
  case stop =>
    rintro D c pre W _ _ h _
    exact h.elim
/-- The member with k below it. -/
def nthR (l : List (Fin 64)) (k : Int) : Int × Bool := if 0 ≤ k then (match l[k.toNat]? with | some x => (((x.val : Nat) : Int), true) | none => (0, false)) else (0, false)
theorem nthR_miss {l : List (Fin 64)} {k : Int} (h : k < 0 ∨ (l.length : Int) ≤ k) : nthR l k = (0, false) := by
  unfold nthR
  split
  · rw [List.getElem?_eq_none (by omega)]
  · rfl
end Go.Proofs.Ytlbjcmiegbejdaa.Q
