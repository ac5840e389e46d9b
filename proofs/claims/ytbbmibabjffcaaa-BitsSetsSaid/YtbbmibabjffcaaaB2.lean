/- Layer 1: a set's members as a row; how many; which has so many below it. -/
import Derived.Test.YtbbmibabjffcaaaB1
import Derived.Test.YtbbmibabjffcaaaWWords
import Derived.Test.YtbbmibabjffcaaaWMore
import Derived.Below
namespace Go.Proofs.Ytbbmibabjffcaaa.Q
open Go.RowKit Go.Shelf
attribute [local go_sem] Oper.semAt_some
set_option linter.unusedVariables false
set_option linter.unusedSimpArgs false
open Go.Proofs.YtbbmibabjffcaaaW.PrintWords Go.Proofs.YtbbmibabjffcaaaW.PrintMore
theorem infoI : (Try.prog.info? 3).map (fun i => (i.zero, i.size, i.bytes)) = some (some (.int .i64 0), 1, 8) := by kernel_rfl
def vals (l : List (Fin 64)) : List Int := l.map fun x => ((x.val : Nat) : Int)
theorem vals_len (l : List (Fin 64)) : (vals l).length = l.length := by simp [vals]
theorem vals_snoc (l : List (Fin 64)) (x : Fin 64) : vals (l ++ [x]) = vals l ++ [((x.val : Nat) : Int)] := by simp [vals]
set_option maxRecDepth 100000 in
set_option maxHeartbeats 2000000 in
theorem list_in (F : Fence) (n : Nat) (hf : F.fn 15) (hfa : F.fn 18) (hf1 : F.fn 41) (hfh : F.fn 16) (hfo : F.fn 39) (hro : F.round = none) (hn : 5 ≤ n) (s : Nat) (hs : s < 2 ^ 64) (w : World) :
    CallsIn F n Try.prog 15 #[.int .u64 s] w fun e W' => ∃ v, e = .returned v ∧ Kd.R (Kd.int .i64) 3 W' w.heap.size (fun _ => True) v (vals (pfx s 64)) ∧ Below w.heap.size w W' := by
  have h1 : 1 ≤ n := by omega
  obtain ⟨i0, hi, hz0, hz1, hz2⟩ := info_parts infoI
  refine callsIn_of_wp_marks Try.func15 rfl hf ?_ hro
  simp only [Try.ntmps15, List.size_toArray, List.length_cons, List.length_nil, Nat.reduceAdd, Nat.reduceSub, Array.replicate_succ, Array.replicate_zero, List.push_toArray, List.append_toArray, List.nil_append, List.cons_append]
  gi_wp2_with (gi_at_call 18; refine (all_in F (n - 1) hfa hro _ _).mono ?_; rintro e w' ⟨rfl, rfl⟩)
  have bO := Boxed.new w 22 (.slice none 0 0)
  have bS := Boxed.new (w.alloc (.cells #[.slice none 0 0] 22)) 23 (.int .u64 s)
  rw [World.size_alloc] at bS
  have hB0 : Below w.heap.size w ((w.alloc (.cells #[.slice none 0 0] 22)).alloc (.cells #[.int .u64 s] 23)) := ((Below.refl _ w).alloc (Nat.le_refl _) _).alloc (by simp) _
  refine wpIn_rangeFunc_ownG hro (by omega) (gf := 41) (lb := #[.pointer (some ⟨w.heap.size + 1, 0, none⟩)]) rfl hf1 (enters_of Try.func41 (by kernel_rfl) rfl)
    (all_stops F (n - 1) hf1 hfh hfo hro (by omega) (w.heap.size + 1) s hs _ (by simp) bS.cell) KC_t (KC_b (by simp)) (Below.refl _ _) (fun _ => rfl)
    (fun pre W => (∃ v, Boxed W w.heap.size 22 v ∧ W.ownsRow w.heap.size 3 1 v (vals pre).length ((vals pre).map (Value.int .i64)) ∧ True) ∧ Boxed W (w.heap.size + 1) 23 (.int .u64 s) ∧ Below w.heap.size w W)
    (fun _ _ _ => False)
    (OwnFrom.and (Own.from (holdsRow_own w.heap.size w.heap.size 22 3 1 (fun pre => (vals pre).length) (fun pre => (vals pre).map (Value.int .i64)) (fun pre v => True)) _) (OwnFrom.and (Own.from (boxed_own (w.heap.size + 1) 23 (fun _ => .int .u64 s)) _) (ownFrom_below (Nat.le_refl _) (by simp; omega))))
    (fun _ _ _ _ _ hs _ _ => hs)
    ⟨⟨_, bO.alloc _, World.ownsRow_nil _ _ _ _, trivial⟩, bS, hB0⟩
    (fun x => { tmps := #[.int .u64 s, undef, .slice none 0 0, .pointer (some ⟨w.heap.size, 0, none⟩), .int .i64 ((x : Fin 64).val : Nat), .int .u64 s, .func (.func 41) #[] #[.pointer (some ⟨w.heap.size + 1, 0, none⟩)], .int .i64 (x.val : Nat), undef, undef, undef, undef, undef], defers := [] }) ?assign ?body ?done ?stop
  case assign =>
    intro l x W K hK
    gi_wp2
    exact hK
  case body =>
    rintro l pre x W ⟨⟨v, hv, hrow, -⟩, hS, hB⟩ hlt
    have hc := hv.cell
    have hpl : (vals pre).length ≤ pre.length := Nat.le_of_eq (vals_len pre)
    have hxp := x.2
    gi_wp2_with (gi_at_builtin; refine wpListIn_append_own _ rfl _ _ 22 rfl w.heap.size 3 i0 (.int .i64 0) 1 8 Try.underlying22 hi hz0 hz1 hz2 rfl (by decide) _ _ _ rfl (hrow.alloc _) ⟨W.heap.size, 0, none⟩ 1 1 [.int .i64 ((x.val : Nat) : Int)] rfl rfl (cell_one_new _ _ _) (by simp [Value.oneCell']) (by unfold maxLen; omega) (by omega) (by have := hB.size; simp; omega) ?_; intro v' w1 hown' hgrow _; obtain ⟨g', cap', rfl⟩ := ownsRow_succ hown'; obtain ⟨hv1, hv2, hr2, hk2, hb2⟩ := hv.appended (by decide) hrow hB.size (Nat.le_refl _) hown' hgrow; have hc1 := hv1.cell; have hf1 := hv1.frozen; have hS1 := (hS.alloc _).kept hgrow (hS.not_row (by decide) hrow))
    have hS2 := hS1.other (B' := w.heap.size) (by omega) (.slice (some ⟨g', 0, none⟩) ((vals pre).length + 1) cap')
    exact ⟨hk2.from _, KC_of hS hS2, ⟨_, hv2, by rw [vals_snoc]; simpa using hr2, trivial⟩, hS2, hB.trans hb2⟩
  case done =>
    rintro D ys W hD rfl ⟨⟨v, hv, hrow, -⟩, hS, hB⟩ hK
    have hc := hv.cell
    gi_wp2
    refine ⟨by simp, .inl ⟨_, _, rfl, run_takeDeferred hK, ?_⟩⟩
    exact ⟨_, results_tmp rfl _ _ _, v, rfl, Kd.R_of_own (ownsRow_putObj hrow _ hK rfl) (fun _ _ => trivial), hB.trans (belowK_b (w := w) (Nat.le_refl _) W D _ _ (by simp at hD; omega) hK rfl rfl)⟩
  case stop =>
    rintro D c pre W _ _ h _
    exact h.elim
set_option maxRecDepth 100000 in
set_option maxHeartbeats 2000000 in
theorem count_size (F : Fence) (n : Nat) (hf : F.fn 46) (hg : F.fn 47) (hfa : F.fn 18) (hf1 : F.fn 41) (hfh : F.fn 16) (hfo : F.fn 39) (hro : F.round = none) (hn : 6 ≤ n) (s : Nat) (hs : s < 2 ^ 64) (p : Fin 64 → Bool) (w : World)
    (hso : ∀ (m : Nat) (x : Fin 64) (W : World), Below w.heap.size w W → CallsIn F m Try.prog 47 (#[.int .i64 ((x.val : Nat) : Int)] ++ #[]) W fun e W' => e = .returned (.bool (p x)) ∧ W = W') :
    CallsIn F n Try.prog 46 #[.int .u64 s, .func (.func 47) #[] #[]] w fun e W' => e = .returned (.int .i64 (((pfx s 64).filter p).length : Nat)) ∧ Below w.heap.size w W' := by
  have h1 : 1 ≤ n := by omega
  have HSO := Lib.hid hso
  clear hso
  refine callsIn_of_wp_marks Try.func46 rfl hf ?_ hro
  simp only [Try.ntmps46, List.size_toArray, List.length_cons, List.length_nil, Nat.reduceAdd, Nat.reduceSub, Array.replicate_succ, Array.replicate_zero, List.push_toArray, List.append_toArray, List.nil_append, List.cons_append]
  gi_wp2_with (gi_at_call 18; refine (all_in F (n - 1) hfa hro _ _).mono ?_; rintro e w' ⟨rfl, rfl⟩)
  have bF := Boxed.new w 34 (.func (.func 47) #[] #[])
  have bN := Boxed.new (w.alloc (.cells #[.func (.func 47) #[] #[]] 34)) 3 (.int .i64 0)
  have bS := Boxed.new ((w.alloc (.cells #[.func (.func 47) #[] #[]] 34)).alloc (.cells #[.int .i64 0] 3)) 23 (.int .u64 s)
  simp only [World.size_alloc] at bN bS
  have hB0 : Below w.heap.size w (((w.alloc (.cells #[.func (.func 47) #[] #[]] 34)).alloc (.cells #[.int .i64 0] 3)).alloc (.cells #[.int .u64 s] 23)) := (((Below.refl _ w).alloc (Nat.le_refl _) _).alloc (by simp) _).alloc (by simp; omega) _
  refine wpIn_rangeFunc_ownG hro (by omega) (gf := 41) (lb := #[.pointer (some ⟨w.heap.size + 1 + 1, 0, none⟩)]) rfl hf1 (enters_of Try.func41 (by kernel_rfl) rfl)
    (all_stops F (n - 1) hf1 hfh hfo hro (by omega) (w.heap.size + 1 + 1) s hs _ (by simp) bS.cell) KC_t (KC_b (by simp)) (Below.refl _ _) (fun _ => rfl)
    (fun pre W => Boxed W w.heap.size 34 (.func (.func 47) #[] #[]) ∧ Boxed W (w.heap.size + 1) 3 (.int .i64 ((pre.filter p).length : Nat)) ∧ Boxed W (w.heap.size + 1 + 1) 23 (.int .u64 s) ∧ Below w.heap.size w W)
    (fun _ _ _ => False)
    (OwnFrom.and (Own.from (boxed_own _ _ (fun _ => .func (.func 47) #[] #[])) _) (OwnFrom.and (Own.from (boxed_own _ _ (fun pre : List (Fin 64) => .int .i64 ((pre.filter p).length : Nat))) _) (OwnFrom.and (Own.from (boxed_own _ _ (fun _ => .int .u64 s)) _) (ownFrom_below (Nat.le_refl _) (by simp; omega)))))
    (fun _ _ _ _ _ hs _ _ => hs)
    ⟨(bF.alloc _).alloc _, by simpa using bN.alloc _, bS, hB0⟩
    (fun x => { tmps := #[.int .u64 s, .func (.func 47) #[] #[], undef, .pointer (some ⟨w.heap.size, 0, none⟩), .int .i64 0, .pointer (some ⟨w.heap.size + 1, 0, none⟩), .int .i64 ((x : Fin 64).val : Nat), .int .u64 s, .func (.func 41) #[] #[.pointer (some ⟨w.heap.size + 1 + 1, 0, none⟩)], .int .i64 (x.val : Nat), undef, undef, undef, undef, undef, undef], defers := [] }) ?assign ?body ?done ?stop
  case assign =>
    intro l x W K hK
    gi_wp2
    exact hK
  case body =>
    rintro l pre x W ⟨hF, hN, hS, hB⟩ hlt
    have hcF := hF.cell
    have hcN := hN.cell
    have hfN := hN.frozen
    have hle : (pre.filter p).length ≤ pre.length := List.length_filter_le _ _
    have hd : 1 ≤ n - 1 - 1 := by omega
    have hsz : w.heap.size + 1 + 1 < W.heap.size := hS.lt
    cases hp : p x with
    | true =>
      have hc' := CallsIn.inRound l (HSO.out (n - 1 - 1 - 1) x W hB)
      rw [hp] at hc'
      have Hp := Lib.hid hp
      have HC := Lib.hid hc'
      clear hp hc'
      gi_wp2_with (gi_at_call 47; refine (HC.out).mono ?_; rintro e w' ⟨rfl, rfl⟩)
      have hN2 := hN.set (.int .i64 ((pre.filter p).length + 1))
      have hF2 := hF.other (B' := w.heap.size + 1) (by omega) (.int .i64 ((pre.filter p).length + 1))
      have hS2 := hS.other (B' := w.heap.size + 1) (by omega) (.int .i64 ((pre.filter p).length + 1))
      refine ⟨(KeepsOthers.setCell _ _ _).from _, KC_of hS hS2, hF2, ?_, hS2, hB.setCell (p := ⟨w.heap.size + 1, 0, none⟩) (by simp) _⟩
      have e : (((pre ++ [x]).filter p).length : Nat) = (pre.filter p).length + 1 := by simp [List.filter_append, Hp.out]
      rw [e]
      exact hN2
    | false =>
      have hc' := CallsIn.inRound l (HSO.out (n - 1 - 1 - 1) x W hB)
      rw [hp] at hc'
      have Hp := Lib.hid hp
      have HC := Lib.hid hc'
      clear hp hc'
      gi_wp2_with (gi_at_call 47; refine (HC.out).mono ?_; rintro e w' ⟨rfl, rfl⟩)
      refine ⟨(KeepsOthers.refl _).from _, rfl, hF, ?_, hS, hB⟩
      have e : (((pre ++ [x]).filter p).length : Nat) = (pre.filter p).length := by simp [List.filter_append, Hp.out]
      rw [e]
      exact hN
  case done =>
    rintro D ys W hD rfl ⟨hF, hN, hS, hB⟩ hK
    have hc := hN.cell
    gi_wp2
    refine ⟨by simp, .inl ⟨_, _, rfl, run_takeDeferred hK, ?_⟩⟩
    exact ⟨_, results_tmp rfl _ _ _, rfl, hB.trans (belowK_b (w := w) (Nat.le_refl _) W D _ _ (by simp at hD; omega) hK rfl rfl)⟩
  case stop =>
    rintro D c pre W _ _ h _
    exact h.elim
set_option maxRecDepth 100000 in
set_option maxHeartbeats 2000000 in
theorem count_rank (F : Fence) (n : Nat) (hf : F.fn 46) (hg : F.fn 48) (hfa : F.fn 18) (hf1 : F.fn 41) (hfh : F.fn 16) (hfo : F.fn 39) (hro : F.round = none) (hn : 6 ≤ n) (s : Nat) (hs : s < 2 ^ 64) (p : Fin 64 → Bool) (Bi : Nat) (w : World)
    (hso : ∀ (m : Nat) (x : Fin 64) (W : World), Below w.heap.size w W → CallsIn F m Try.prog 48 (#[.int .i64 ((x.val : Nat) : Int)] ++ #[.pointer (some ⟨Bi, 0, none⟩)]) W fun e W' => e = .returned (.bool (p x)) ∧ W = W') :
    CallsIn F n Try.prog 46 #[.int .u64 s, .func (.func 48) #[] #[.pointer (some ⟨Bi, 0, none⟩)]] w fun e W' => e = .returned (.int .i64 (((pfx s 64).filter p).length : Nat)) ∧ Below w.heap.size w W' := by
  have h1 : 1 ≤ n := by omega
  have HSO := Lib.hid hso
  clear hso
  refine callsIn_of_wp_marks Try.func46 rfl hf ?_ hro
  simp only [Try.ntmps46, List.size_toArray, List.length_cons, List.length_nil, Nat.reduceAdd, Nat.reduceSub, Array.replicate_succ, Array.replicate_zero, List.push_toArray, List.append_toArray, List.nil_append, List.cons_append]
  gi_wp2_with (gi_at_call 18; refine (all_in F (n - 1) hfa hro _ _).mono ?_; rintro e w' ⟨rfl, rfl⟩)
  have bF := Boxed.new w 34 (.func (.func 48) #[] #[.pointer (some ⟨Bi, 0, none⟩)])
  have bN := Boxed.new (w.alloc (.cells #[.func (.func 48) #[] #[.pointer (some ⟨Bi, 0, none⟩)]] 34)) 3 (.int .i64 0)
  have bS := Boxed.new ((w.alloc (.cells #[.func (.func 48) #[] #[.pointer (some ⟨Bi, 0, none⟩)]] 34)).alloc (.cells #[.int .i64 0] 3)) 23 (.int .u64 s)
  simp only [World.size_alloc] at bN bS
  have hB0 : Below w.heap.size w (((w.alloc (.cells #[.func (.func 48) #[] #[.pointer (some ⟨Bi, 0, none⟩)]] 34)).alloc (.cells #[.int .i64 0] 3)).alloc (.cells #[.int .u64 s] 23)) := (((Below.refl _ w).alloc (Nat.le_refl _) _).alloc (by simp) _).alloc (by simp; omega) _
  refine wpIn_rangeFunc_ownG hro (by omega) (gf := 41) (lb := #[.pointer (some ⟨w.heap.size + 1 + 1, 0, none⟩)]) rfl hf1 (enters_of Try.func41 (by kernel_rfl) rfl)
    (all_stops F (n - 1) hf1 hfh hfo hro (by omega) (w.heap.size + 1 + 1) s hs _ (by simp) bS.cell) KC_t (KC_b (by simp)) (Below.refl _ _) (fun _ => rfl)
    (fun pre W => Boxed W w.heap.size 34 (.func (.func 48) #[] #[.pointer (some ⟨Bi, 0, none⟩)]) ∧ Boxed W (w.heap.size + 1) 3 (.int .i64 ((pre.filter p).length : Nat)) ∧ Boxed W (w.heap.size + 1 + 1) 23 (.int .u64 s) ∧ Below w.heap.size w W)
    (fun _ _ _ => False)
    (OwnFrom.and (Own.from (boxed_own _ _ (fun _ => .func (.func 48) #[] #[.pointer (some ⟨Bi, 0, none⟩)])) _) (OwnFrom.and (Own.from (boxed_own _ _ (fun pre : List (Fin 64) => .int .i64 ((pre.filter p).length : Nat))) _) (OwnFrom.and (Own.from (boxed_own _ _ (fun _ => .int .u64 s)) _) (ownFrom_below (Nat.le_refl _) (by simp; omega)))))
    (fun _ _ _ _ _ hs _ _ => hs)
    ⟨(bF.alloc _).alloc _, by simpa using bN.alloc _, bS, hB0⟩
    (fun x => { tmps := #[.int .u64 s, .func (.func 48) #[] #[.pointer (some ⟨Bi, 0, none⟩)], undef, .pointer (some ⟨w.heap.size, 0, none⟩), .int .i64 0, .pointer (some ⟨w.heap.size + 1, 0, none⟩), .int .i64 ((x : Fin 64).val : Nat), .int .u64 s, .func (.func 41) #[] #[.pointer (some ⟨w.heap.size + 1 + 1, 0, none⟩)], .int .i64 (x.val : Nat), undef, undef, undef, undef, undef, undef], defers := [] }) ?assign ?body ?done ?stop
  case assign =>
    intro l x W K hK
    gi_wp2
    exact hK
  case body =>
    rintro l pre x W ⟨hF, hN, hS, hB⟩ hlt
    have hcF := hF.cell
    have hcN := hN.cell
    have hfN := hN.frozen
    have hle : (pre.filter p).length ≤ pre.length := List.length_filter_le _ _
    have hd : 1 ≤ n - 1 - 1 := by omega
    have hsz : w.heap.size + 1 + 1 < W.heap.size := hS.lt
    cases hp : p x with
    | true =>
      have hc' := CallsIn.inRound l (HSO.out (n - 1 - 1 - 1) x W hB)
      rw [hp] at hc'
      have Hp := Lib.hid hp
      have HC := Lib.hid hc'
      clear hp hc'
      gi_wp2_with (gi_at_call 48; refine (HC.out).mono ?_; rintro e w' ⟨rfl, rfl⟩)
      have hN2 := hN.set (.int .i64 ((pre.filter p).length + 1))
      have hF2 := hF.other (B' := w.heap.size + 1) (by omega) (.int .i64 ((pre.filter p).length + 1))
      have hS2 := hS.other (B' := w.heap.size + 1) (by omega) (.int .i64 ((pre.filter p).length + 1))
      refine ⟨(KeepsOthers.setCell _ _ _).from _, KC_of hS hS2, hF2, ?_, hS2, hB.setCell (p := ⟨w.heap.size + 1, 0, none⟩) (by simp) _⟩
      have e : (((pre ++ [x]).filter p).length : Nat) = (pre.filter p).length + 1 := by simp [List.filter_append, Hp.out]
      rw [e]
      exact hN2
    | false =>
      have hc' := CallsIn.inRound l (HSO.out (n - 1 - 1 - 1) x W hB)
      rw [hp] at hc'
      have Hp := Lib.hid hp
      have HC := Lib.hid hc'
      clear hp hc'
      gi_wp2_with (gi_at_call 48; refine (HC.out).mono ?_; rintro e w' ⟨rfl, rfl⟩)
      refine ⟨(KeepsOthers.refl _).from _, rfl, hF, ?_, hS, hB⟩
      have e : (((pre ++ [x]).filter p).length : Nat) = (pre.filter p).length := by simp [List.filter_append, Hp.out]
      rw [e]
      exact hN
  case done =>
    rintro D ys W hD rfl ⟨hF, hN, hS, hB⟩ hK
    have hc := hN.cell
    gi_wp2
    refine ⟨by simp, .inl ⟨_, _, rfl, run_takeDeferred hK, ?_⟩⟩
    exact ⟨_, results_tmp rfl _ _ _, rfl, hB.trans (belowK_b (w := w) (Nat.le_refl _) W D _ _ (by simp at hD; omega) hK rfl rfl)⟩
  case stop =>
    rintro D c pre W _ _ h _
    exact h.elim
set_option maxRecDepth 100000 in
set_option maxHeartbeats 2000000 in
theorem size1_in (F : Fence) (n : Nat) (hf : F.fn 47) (hro : F.round = none) (x : Int) (w : World) : CallsIn F n Try.prog 47 #[.int .i64 x] w fun e w' => e = .returned (.bool true) ∧ w = w' := by
  refine callsIn_of_wp Try.func47 rfl hf ?_ hro
  simp only [Try.ntmps47, List.size_toArray, List.length_cons, List.length_nil, Nat.reduceAdd, Nat.reduceSub, Array.replicate_succ, Array.replicate_zero, List.push_toArray, List.append_toArray, List.nil_append, List.cons_append]
  gi_wp2
  go_ret
  exact ⟨rfl, rfl⟩
theorem rank1_in (F : Fence) (n : Nat) (hf : F.fn 48) (hro : F.round = none) (x i : Int) (Bi : Nat) (w : World) (hc : w.cell? ⟨Bi, 0, none⟩ = some (.int .i64 i)) : CallsIn F n Try.prog 48 #[.int .i64 x, .pointer (some ⟨Bi, 0, none⟩)] w fun e w' => e = .returned (.bool (decide (x < i))) ∧ w = w' := by
  refine callsIn_of_wp Try.func48 rfl hf ?_ hro
  simp only [Try.ntmps48, List.size_toArray, List.length_cons, List.length_nil, Nat.reduceAdd, Nat.reduceSub, Array.replicate_succ, Array.replicate_zero, List.push_toArray, List.append_toArray, List.nil_append, List.cons_append]
  gi_wp2
  go_ret
  exact ⟨rfl, rfl⟩
set_option maxRecDepth 100000 in
set_option maxHeartbeats 2000000 in
theorem size29 (s : Nat) (hs : s < 2 ^ 64) (w : World) : Calls Try.prog 29 #[.int .u64 s] w fun e W' => e = .returned (.int .i64 ((pfx s 64).length : Nat)) ∧ Below w.heap.size w W' := by
  have hc := callsIn_wide.1 (count_size Fence.wide 6 trivial trivial trivial trivial trivial trivial rfl (by decide) s hs (fun _ => true) w (fun m x W _ => size1_in Fence.wide m trivial rfl _ W))
  have e : (pfx s 64).filter (fun _ => true) = pfx s 64 := List.filter_eq_self.2 (fun _ _ => rfl)
  rw [e] at hc
  go_enter Try.func29, Try.ntmps29
  go_wp2_with fail
  refine hc.mono ?_
  rintro e w1 ⟨rfl, hb⟩
  go_wp2
  go_ret
  exact ⟨rfl, hb⟩
theorem rank30 (s : Nat) (hs : s < 2 ^ 64) (i : Int) (w : World) : Calls Try.prog 30 #[.int .u64 s, .int .i64 i] w fun e W' => e = .returned (.int .i64 (((pfx s 64).filter fun x => decide (((x.val : Nat) : Int) < i)).length : Nat)) ∧ Below w.heap.size w W' := by
  have bI := Boxed.new w 3 (.int .i64 i)
  have hc := callsIn_wide.1 (count_rank Fence.wide 6 trivial trivial trivial trivial trivial trivial rfl (by decide) s hs (fun x => decide (((x.val : Nat) : Int) < i)) w.heap.size (w.alloc (.cells #[.int .i64 i] 3)) (fun m x W hB => rank1_in Fence.wide m trivial rfl _ i _ W ((hB.cell (p := ⟨w.heap.size, 0, none⟩) (by simp)).trans bI.cell)))
  clear bI
  go_enter Try.func30, Try.ntmps30
  go_wp2_with fail
  refine hc.mono ?_
  rintro e w1 ⟨rfl, hb⟩
  go_wp2
  go_ret
  exact ⟨rfl, ((Below.refl _ w).alloc (Nat.le_refl _) _).trans (hb.mono (by simp))⟩
/-- The member with k below it. -/
def nthR (l : List (Fin 64)) (k : Int) : Int × Bool := if 0 ≤ k then (match l[k.toNat]? with | some x => (((x.val : Nat) : Int), true) | none => (0, false)) else (0, false)
theorem nthR_hit {l q : List (Fin 64)} {x : Fin 64} {k : Int} (h : q ++ [x] <+: l) (hk : (q.length : Int) = k) : nthR l k = (((x.val : Nat) : Int), true) := by
  subst hk
  obtain ⟨t, rfl⟩ := h
  have e : (q ++ [x] ++ t)[(q.length : Int).toNat]? = some x := by simp
  unfold nthR
  rw [if_pos (by omega), e]
theorem nthR_miss {l : List (Fin 64)} {k : Int} (h : k < 0 ∨ (l.length : Int) ≤ k) : nthR l k = (0, false) := by
  unfold nthR
  split
  · rw [List.getElem?_eq_none (by omega)]
  · rfl
theorem wrap_dec (k : Int) (m : Nat) : wrap64 (wrap64 (k - (m : Int)) - 1) = wrap64 (k - ((m + 1 : Nat) : Int)) := by unfold wrap64; omega
theorem wrap_test {k : Int} {m : Nat} (h0 : -9223372036854775808 ≤ k) (h1 : k < 9223372036854775808) (hm : m ≤ 64) : (wrap64 (k - (m : Int)) == 0) = decide (k = (m : Int)) := by
  rw [Bool.eq_iff_iff, beq_iff_eq, decide_eq_true_iff]
  unfold wrap64
  omega
theorem wrap_start {k : Int} (h0 : -9223372036854775808 ≤ k) (h1 : k < 9223372036854775808) : wrap64 (k - ((0 : Nat) : Int)) = k := by unfold wrap64; omega
set_option maxRecDepth 100000 in
set_option maxHeartbeats 2000000 in
theorem nth_in (F : Fence) (n : Nat) (hf : F.fn 27) (hfa : F.fn 18) (hf1 : F.fn 41) (hfh : F.fn 16) (hfo : F.fn 39) (hro : F.round = none) (hn : 6 ≤ n) (s : Nat) (hs : s < 2 ^ 64) (k : Int) (h0 : -9223372036854775808 ≤ k) (h1k : k < 9223372036854775808) (w : World) :
    CallsIn F n Try.prog 27 #[.int .u64 s, .int .i64 k] w fun e W' => e = .returned (.tuple #[.int .i64 (nthR (pfx s 64) k).1, .bool (nthR (pfx s 64) k).2]) ∧ Below w.heap.size w W' := by
  have h1 : 1 ≤ n := by omega
  have bK := Boxed.new w 3 (.int .i64 k)
  refine callsIn_of_wp_marks Try.func27 rfl hf ?_ hro
  simp only [Try.ntmps27, List.size_toArray, List.length_cons, List.length_nil, Nat.reduceAdd, Nat.reduceSub, Array.replicate_succ, Array.replicate_zero, List.push_toArray, List.append_toArray, List.nil_append, List.cons_append]
  gi_wp2_with (gi_at_call 18; refine (all_in F (n - 1) hfa hro _ _).mono ?_; rintro e w' ⟨rfl, rfl⟩)
  have bR := Boxed.new (w.alloc (.cells #[.int .i64 k] 3)) 3 (.int .i64 0)
  have bT := Boxed.new ((w.alloc (.cells #[.int .i64 k] 3)).alloc (.cells #[.int .i64 0] 3)) 4 (.bool false)
  have bS := Boxed.new (((w.alloc (.cells #[.int .i64 k] 3)).alloc (.cells #[.int .i64 0] 3)).alloc (.cells #[.bool false] 4)) 23 (.int .u64 s)
  simp only [World.size_alloc] at bR bT bS
  have hB0 : Below w.heap.size w ((((w.alloc (.cells #[.int .i64 k] 3)).alloc (.cells #[.int .i64 0] 3)).alloc (.cells #[.bool false] 4)).alloc (.cells #[.int .u64 s] 23)) := ((((Below.refl _ w).alloc (Nat.le_refl _) _).alloc (by simp) _).alloc (by simp; omega) _).alloc (by simp; omega) _
  refine wpIn_rangeFunc_ownG hro (by omega) (gf := 41) (lb := #[.pointer (some ⟨w.heap.size + 1 + 1 + 1, 0, none⟩)]) rfl hf1 (enters_of Try.func41 (by kernel_rfl) rfl)
    (all_stops F (n - 1) hf1 hfh hfo hro (by omega) (w.heap.size + 1 + 1 + 1) s hs _ (by simp) bS.cell) KC_t (KC_b (by simp)) (Below.refl _ _) (fun _ => rfl)
    (fun pre W => (Boxed W w.heap.size 3 (.int .i64 (wrap64 (k - (pre.length : Int)))) ∧ Boxed W (w.heap.size + 1) 3 (.int .i64 0) ∧ Boxed W (w.heap.size + 1 + 1) 4 (.bool false) ∧ Boxed W (w.heap.size + 1 + 1 + 1) 23 (.int .u64 s) ∧ (k < 0 ∨ (pre.length : Int) ≤ k)) ∧ Below w.heap.size w W)
    (fun c pre W => (c = .ret ∧ ∃ q x, pre = q ++ [x] ∧ (q.length : Int) = k ∧ Boxed W (w.heap.size + 1) 3 (.int .i64 ((x.val : Nat) : Int)) ∧ Boxed W (w.heap.size + 1 + 1) 4 (.bool true)) ∧ Below w.heap.size w W)
    (OwnFrom.and (Own.from (fun pre A B row hs hg hr => ⟨boxed_own _ _ (fun pre : List (Fin 64) => .int .i64 (wrap64 (k - (pre.length : Int)))) pre A B row hs.1 hg hr, boxed_own _ _ (fun _ => .int .i64 0) pre A B row hs.2.1 hg hr, boxed_own _ _ (fun _ => .bool false) pre A B row hs.2.2.1 hg hr, boxed_own _ _ (fun _ => .int .u64 s) pre A B row hs.2.2.2.1 hg hr, hs.2.2.2.2⟩) _) (ownFrom_below (Nat.le_refl _) (by simp; omega)))
    (fun c => OwnFrom.and (Own.from (fun pre A B row hs hg hr => by obtain ⟨hc, q, x, hp, hq, b1, b2⟩ := hs; exact ⟨hc, q, x, hp, hq, boxed_own _ _ (fun _ => .int .i64 ((x.val : Nat) : Int)) pre A B row b1 hg hr, boxed_own _ _ (fun _ => .bool true) pre A B row b2 hg hr⟩) _) (ownFrom_below (Nat.le_refl _) (by simp; omega)))
    ⟨⟨by rw [show (([] : List (Fin 64)).length : Int) = ((0 : Nat) : Int) from rfl, wrap_start h0 h1k]; exact ((bK.alloc _).alloc _).alloc _, (bR.alloc _).alloc _, bT.alloc _, bS, by (by_cases h : k < 0; exact .inl h; exact .inr (by simp; omega))⟩, hB0⟩
    (fun x => { tmps := #[.int .u64 s, .int .i64 k, undef, .pointer (some ⟨w.heap.size, 0, none⟩), .pointer (some ⟨w.heap.size + 1, 0, none⟩), .pointer (some ⟨w.heap.size + 1 + 1, 0, none⟩), .int .i64 ((x : Fin 64).val : Nat), .int .u64 s, .func (.func 41) #[] #[.pointer (some ⟨w.heap.size + 1 + 1 + 1, 0, none⟩)], .int .i64 (x.val : Nat), undef, undef, undef, undef, undef], defers := [] }) ?assign ?body ?done ?stop
  case assign =>
    intro l x W K hK
    gi_wp2
    exact hK
  case body =>
    rintro l pre x W ⟨⟨hK, hR, hT, hS, hno⟩, hB⟩ hlt
    have hcK := hK.cell
    have hcR := hR.cell
    have hcT := hT.cell
    have hfK := hK.frozen
    have hfR := hR.frozen
    have hfT := hT.frozen
    have hsz : w.heap.size + 1 + 1 + 1 < W.heap.size := hS.lt
    have ht := wrap_test (k := k) (m := pre.length) h0 h1k (by omega)
    have hd := wrap_dec k pre.length
    have HD := Lib.hid hd
    clear hd
    by_cases hkm : k = (pre.length : Int)
    · rw [decide_eq_true hkm] at ht
      have HK := Lib.hid hkm
      clear hkm
      gi_wp2
      have R2 := (hR.set (.int .i64 ((x.val : Nat) : Int))).other (B' := w.heap.size + 1 + 1) (by omega) (.bool true)
      have T2 := (hT.other (B' := w.heap.size + 1) (by omega) (.int .i64 ((x.val : Nat) : Int))).set (.bool true)
      exact ⟨((KeepsOthers.setCell _ _ _).trans (KeepsOthers.setCell _ _ _)).from _, ⟨rfl, pre, x, rfl, HK.out.symm, R2, T2⟩, (hB.setCell (p := ⟨w.heap.size + 1, 0, none⟩) (by simp) _).setCell (p := ⟨w.heap.size + 1 + 1, 0, none⟩) (by simp; omega) _⟩
    · rw [decide_eq_false hkm] at ht
      gi_wp2
      have K2 := hK.set (.int .i64 (wrap64 (wrap64 (k - (pre.length : Int)) - 1)))
      have R2 := hR.other (B' := w.heap.size) (by omega) (.int .i64 (wrap64 (wrap64 (k - (pre.length : Int)) - 1)))
      have T2 := hT.other (B' := w.heap.size) (by omega) (.int .i64 (wrap64 (wrap64 (k - (pre.length : Int)) - 1)))
      have S2 := hS.other (B' := w.heap.size) (by omega) (.int .i64 (wrap64 (wrap64 (k - (pre.length : Int)) - 1)))
      refine ⟨(KeepsOthers.setCell _ _ _).from _, KC_of hS S2, ⟨?_, R2, T2, S2, ?_⟩, hB.setCell (p := ⟨w.heap.size, 0, none⟩) (by simp) _⟩
      · rw [HD.out] at K2 ⊢
        rw [List.length_append, List.length_singleton]
        exact K2
      · rw [List.length_append, List.length_singleton]; omega
  case done =>
    rintro D ys W hD rfl ⟨⟨hK, hR, hT, hS, hno⟩, hB⟩ hKD
    have hcR := hR.cell
    have hcT := hT.cell
    have hfR := hR.frozen
    have hfT := hT.frozen
    gi_wp2
    have hK1 := (KeepsOthers.setCell W ⟨w.heap.size + 1, 0, none⟩ (.int .i64 0)).same D _ hKD rfl
    have hK2 := (KeepsOthers.setCell (W.setCell ⟨w.heap.size + 1, 0, none⟩ (.int .i64 0)) ⟨w.heap.size + 1 + 1, 0, none⟩ (.bool false)).same D _ hK1 rfl
    have R2 := (hR.set (.int .i64 0)).other (B' := w.heap.size + 1 + 1) (by omega) (.bool false)
    have T2 := (hT.other (B' := w.heap.size + 1) (by omega) (.int .i64 0)).set (.bool false)
    refine ⟨by simp, .inl ⟨_, _, rfl, run_takeDeferred hK2, ?_⟩⟩
    have c1 := cell_kept R2.cell (grownBy_putObj' _ D (.deferred none)) (fun r e => by cases e; exact ⟨_, hK2, rfl⟩)
    have c2 := cell_kept T2.cell (grownBy_putObj' _ D (.deferred none)) (fun r e => by cases e; exact ⟨_, hK2, rfl⟩)
    refine ⟨.tuple #[.int .i64 0, .bool false], ?_, by rw [nthR_miss hno], ((hB.setCell (p := ⟨w.heap.size + 1, 0, none⟩) (by simp) _).setCell (p := ⟨w.heap.size + 1 + 1, 0, none⟩) (by simp; omega) _).trans (belowK_b (w := w) (Nat.le_refl _) _ D _ _ (by simp at hD; omega) hK2 rfl rfl)⟩
    simp [results, Try.f27, go_sem, c1, c2]
  case stop =>
    rintro D c pre W hD hpre ⟨⟨rfl, q, x, rfl, hq, R2, T2⟩, hB⟩ hKD
    gi_wp2
    refine ⟨by simp, .inl ⟨_, _, rfl, run_takeDeferred hKD, ?_⟩⟩
    have c1 := cell_kept R2.cell (grownBy_putObj' _ D (.deferred none)) (fun r e => by cases e; exact ⟨_, hKD, rfl⟩)
    have c2 := cell_kept T2.cell (grownBy_putObj' _ D (.deferred none)) (fun r e => by cases e; exact ⟨_, hKD, rfl⟩)
    refine ⟨.tuple #[.int .i64 ((x.val : Nat) : Int), .bool true], ?_, by rw [nthR_hit hpre hq], hB.trans (belowK_b (w := w) (Nat.le_refl _) W D _ _ (by simp at hD; omega) hKD rfl rfl)⟩
    simp [results, Try.f27, go_sem, c1, c2]
end Go.Proofs.Ytbbmibabjffcaaa.Q
