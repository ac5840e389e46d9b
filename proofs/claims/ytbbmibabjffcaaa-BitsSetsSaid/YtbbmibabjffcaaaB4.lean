/- Layer 1: a relation's rows as a row. -/
import Derived.Test.YtbbmibabjffcaaaB3
import Derived.StillTailTactics
import Derived.RegionTactic
import Derived.RegionIn
import Derived.Shelf.RegionOpen
import Derived.Deep.RegionLaw
import Derived.Deep.AppendLies
import Derived.Test.YtbbmibabjffcaaaWLast
namespace Go.Proofs.Ytbbmibabjffcaaa.Q
open Go.RowKit Go.Shelf
attribute [local go_sem] Oper.semAt_some
set_option linter.unusedVariables false
set_option linter.unusedSimpArgs false
open Go.Proofs.YtbbmibabjffcaaaW.PrintWords Go.Proofs.YtbbmibabjffcaaaW.PrintMore
theorem infoU : (Try.prog.info? 23).map (fun i => (i.zero, i.size, i.bytes)) = some (some (.int .u64 0), 1, 8) := by kernel_rfl
theorem sizeU (W : World) : (sizeOf 23).run Try.prog W = .ok 1 W := by
  have h : (Try.prog.info? 23).map (·.size) = some 1 := by kernel_rfl
  cases hq : Try.prog.info? 23 with
  | none => simp [hq] at h
  | some i =>
    have hs : i.size = 1 := by simpa [hq] using h
    simp [sizeOf, typeInfo, hq, hs]
theorem arrU : Try.prog.underlying 60 = some (.array 64 23) := by kernel_rfl
theorem slice_to (b n : Nat) (hn : n ≤ 64) (W : World) : (Instr.sliceAt 60 (.pointer (some ⟨b, 0, none⟩)) none (some (.int .i64 ((n : Nat) : Int))) none).run Try.prog W = .ok (.slice (some ⟨b, 0, none⟩) n 64) W := by
  have hl : Try.prog.arrayLen 60 = 64 := by kernel_rfl
  have he : Try.prog.elem 60 = 23 := by kernel_rfl
  rw [run_sliceAt_array_h W 60 ⟨b, 0, none⟩ (by rw [hl, he]; exact arrU) .i64 n (by omega) (by rw [hl]; omega), he, sizeU, hl]
  simp [slicedAt, Addr.add, Result.andThen]
theorem slice_all (b : Nat) (W : World) : (Instr.sliceAt 60 (.pointer (some ⟨b, 0, none⟩)) none none none).run Try.prog W = .ok (.slice (some ⟨b, 0, none⟩) 64 64) W := by
  have hl : Try.prog.arrayLen 60 = 64 := by kernel_rfl
  have he : Try.prog.elem 60 = 23 := by kernel_rfl
  rw [run_sliceAt_array_all W 60 ⟨b, 0, none⟩ (by rw [hl, he]; exact arrU), he, sizeU, hl]
  simp [slicedAt, Addr.add, Result.andThen]
theorem below_cell' {w W : World} {B : Nat} (hb : Below B w W) (b o : Nat) (h : b < B) : W.cell? ⟨b, o, none⟩ = w.cell? ⟨b, o, none⟩ := hb.cell (p := ⟨b, o, none⟩) h
/-- The first n rows. -/
def rowsI (R : Nat → Nat) (n : Nat) : List Int := (List.range n).map fun i => ((R i : Nat) : Int)
theorem rowsI_len (R : Nat → Nat) (n : Nat) : (rowsI R n).length = n := by simp [rowsI]
set_option maxRecDepth 100000 in
set_option maxHeartbeats 2000000 in
theorem mlist (R : Nat → Nat) (n : Nat) (hn : n ≤ 64) (w : World) :
    Calls Try.prog 44 #[.agg (mcells R n).toArray] w fun e W' => ∃ v, e = .returned v ∧ Kd.R (Kd.int .u64) 23 W' w.heap.size (fun _ => True) v (rowsI R n) ∧ Below w.heap.size w W' := by
  obtain ⟨i0, hi, hz0, hz1, hz2⟩ := info_parts infoU
  by_cases hn0 : n = 0
  · subst hn0
    have ht : ((((0 : Nat) : Int)) == 0) = true := by decide
    go_enter Try.func44, Try.ntmps44
    go_upto_region 1 with fail
    have hM := MatAt.new w R 0
    have hB1 : Below w.heap.size w (w.alloc (.cells (mcells R 0).toArray 62)) := (Below.refl _ w).alloc (Nat.le_refl _) _
    obtain ⟨W1, hW1⟩ : ∃ W1, W1 = w.alloc (.cells (mcells R 0).toArray 62) := ⟨_, rfl⟩
    rw [← hW1] at hM hB1 ⊢
    clear hW1
    have hnum := hM.num
    go_wp2
    go_ret
    exact ⟨_, rfl, Kd.R_nil _ _ _ _ _, hB1⟩
  · have ht : (((n : Nat) : Int) == 0) = false := by rw [beq_eq_false_iff_ne]; omega
    have hsl := slice_to w.heap.size n hn
    go_enter Try.func44, Try.ntmps44
    go_upto_region 1 with fail
    have hM := MatAt.new w R n
    have hB1 : Below w.heap.size w (w.alloc (.cells (mcells R n).toArray 62)) := (Below.refl _ w).alloc (Nat.le_refl _) _
    obtain ⟨W1, hW1⟩ : ∃ W1, W1 = w.alloc (.cells (mcells R n).toArray 62) := ⟨_, rfl⟩
    rw [← hW1] at hM hB1 ⊢
    clear hW1
    have hnum := hM.num
    have hb : w.heap.size < W1.heap.size := hM.lt
    have hown : (W1.alloc (.cells #[] 23)).ownsRow w.heap.size 23 1 (.slice (some ⟨W1.heap.size, 0, none⟩) 0 0) 0 [] := ⟨by simp, .inr ⟨W1.heap.size, 0, #[], rfl, hB1.size, World.alloc_heap_new W1 _, Nat.le_refl _, by simp [maxLen], by simp, by simp⟩⟩
    have hnews : ∀ j u, ((rowsI R n).map (Value.int .u64))[j]? = some u → (W1.alloc (.cells #[] 23)).cell? ((⟨w.heap.size, 0, none⟩ : Addr).add j) = some u := by
      intro j u hj
      have hjn : j < n := by have := (List.getElem?_eq_some_iff.1 hj).1; simpa [rowsI] using this
      rw [Addr.add_mid, Nat.zero_add, (hM.alloc _).cell j (by omega)]
      simp [rowsI, hjn] at hj
      rw [hj]
    have HO := Lib.hid hown
    have HN := Lib.hid hnews
    clear hown hnews
    go_wp2_with ((with_reducible refine gate_builtin (b := .append) (xs := #[.tmp 6, .tmp 10]) rfl ?_); at_builtin; refine wpList_append_own _ rfl (.tmp 6) (.tmp 10) 37 rfl w.heap.size 23 i0 (.int .u64 0) 1 8 Try.underlying37 hi hz0 hz1 hz2 rfl (by decide) _ 0 [] rfl HO.out ⟨w.heap.size, 0, none⟩ n 64 ((rowsI R n).map (Value.int .u64)) rfl (by simp [rowsI]) HN.out (by simp [Value.oneCell']) (by unfold maxLen; omega) (by omega) (by simp; omega) ?_; intro v' w1 hown' hgrow _)
    go_ret
    refine ⟨_, rfl, Kd.R_of_own (by rw [rowsI_len]; simpa [encs] using hown') (fun _ _ => trivial), ?_⟩
    exact (hB1.alloc hB1.size _).grown hgrow (by simp; omega) (fun k e => by cases e; exact hB1.size)
theorem mat_own {β : Type} (b : Nat) (f : β → Nat → Nat) (n : Nat) : Own (fun s W => MatAt W b (f s) n) := fun s X Y row hs hg hrow =>
  hs.kept hg (fun e' => by obtain ⟨o, ho, hc⟩ := hrow b e'.symm; rw [show X.heap[b]? = _ from hs] at ho; cases ho; cases hc)
def orAll (R : Nat → Nat) (l : List (Fin 64)) : Nat := l.foldl (fun a x => a ||| R x.val) 0
theorem orAll_snoc (R : Nat → Nat) (l : List (Fin 64)) (x : Fin 64) : orAll R (l ++ [x]) = orAll R l ||| R x.val := by simp [orAll]
theorem orAll_lt {R : Nat → Nat} (h : ∀ i, R i < 2 ^ 64) (l : List (Fin 64)) : orAll R l < 2 ^ 64 := by
  unfold orAll
  suffices ∀ (l : List (Fin 64)) (a : Nat), a < 2 ^ 64 → l.foldl (fun a x => a ||| R x.val) a < 2 ^ 64 from this l 0 (by decide)
  intro l
  induction l with
  | nil => exact fun a ha => ha
  | cons x t ih => exact fun a ha => ih _ (Nat.or_lt_two_pow ha (h _))
theorem or_u64 {a b : Nat} (ha : a < 2 ^ 64) (hb : b < 2 ^ 64) : bits .or .u64 (a : Int) (b : Int) = ((a ||| b : Nat) : Int) := by
  have hw : ∀ n : Int, 0 ≤ n → n < 2 ^ 64 → IntKind.u64.wrap n = n := fun n h0 h1 => by simp [IntKind.wrap, IntKind.bits, IntKind.signed]; omega
  exact (bits_nat .u64 64 (by decide) hw a b ha hb).2
set_option maxRecDepth 100000 in
set_option maxHeartbeats 2000000 in
theorem through_in (F : Fence) (m : Nat) (hf : F.fn 49) (hfa : F.fn 18) (hf1 : F.fn 41) (hfh : F.fn 16) (hfo : F.fn 39) (hro : F.round = none) (hm : 6 ≤ m) (R : Nat → Nat) (hR : ∀ i, R i < 2 ^ 64) (n : Nat) (s : Nat) (hs : s < 2 ^ 64) (w : World) :
    CallsIn F m Try.prog 49 #[.agg (mcells R n).toArray, .int .u64 s] w fun e W' => e = .returned (.int .u64 ((orAll R (pfx s 64) : Nat) : Int)) ∧ Below w.heap.size w W' := by
  have h1 : 1 ≤ m := by omega
  have hR' := Lib.hid hR
  clear hR
  refine callsIn_of_wp_marks Try.func49 rfl hf ?_ hro
  simp only [Try.ntmps49, List.size_toArray, List.length_cons, List.length_nil, Nat.reduceAdd, Nat.reduceSub, Array.replicate_succ, Array.replicate_zero, List.push_toArray, List.append_toArray, List.nil_append, List.cons_append]
  gi_wp2_with (gi_at_call 18; refine (all_in F (m - 1) hfa hro _ _).mono ?_; rintro e w' ⟨rfl, rfl⟩)
  have bM := MatAt.new w R n
  have bO := Boxed.new (w.alloc (.cells (mcells R n).toArray 62)) 23 (.int .u64 0)
  have bS := Boxed.new ((w.alloc (.cells (mcells R n).toArray 62)).alloc (.cells #[.int .u64 0] 23)) 23 (.int .u64 s)
  simp only [World.size_alloc] at bO bS
  have hB0 : Below w.heap.size w (((w.alloc (.cells (mcells R n).toArray 62)).alloc (.cells #[.int .u64 0] 23)).alloc (.cells #[.int .u64 s] 23)) := (((Below.refl _ w).alloc (Nat.le_refl _) _).alloc (by simp) _).alloc (by simp; omega) _
  refine wpIn_rangeFunc_ownG hro (by omega) (gf := 41) (lb := #[.pointer (some ⟨w.heap.size + 1 + 1, 0, none⟩)]) rfl hf1 (enters_of Try.func41 (by kernel_rfl) rfl)
    (all_stops F (m - 1) hf1 hfh hfo hro (by omega) (w.heap.size + 1 + 1) s hs _ (by simp) bS.cell) KC_t (KC_b (by simp)) (Below.refl _ _) (fun _ => rfl)
    (fun pre W => MatAt W w.heap.size R n ∧ Boxed W (w.heap.size + 1) 23 (.int .u64 ((orAll R pre : Nat) : Int)) ∧ Boxed W (w.heap.size + 1 + 1) 23 (.int .u64 s) ∧ Below w.heap.size w W)
    (fun _ _ _ => False)
    (OwnFrom.and (Own.from (mat_own _ (fun _ => R) n) _) (OwnFrom.and (Own.from (boxed_own _ _ (fun pre : List (Fin 64) => .int .u64 ((orAll R pre : Nat) : Int))) _) (OwnFrom.and (Own.from (boxed_own _ _ (fun _ => .int .u64 s)) _) (ownFrom_below (Nat.le_refl _) (by simp; omega)))))
    (fun _ _ _ _ _ hs _ _ => hs)
    ⟨(bM.alloc _).alloc _, bO.alloc _, bS, hB0⟩
    (fun x => { tmps := #[.agg (mcells R n).toArray, .int .u64 s, .pointer (some ⟨w.heap.size, 0, none⟩), undef, .int .u64 0, .pointer (some ⟨w.heap.size + 1, 0, none⟩), .int .i64 ((x : Fin 64).val : Nat), .int .u64 s, .func (.func 41) #[] #[.pointer (some ⟨w.heap.size + 1 + 1, 0, none⟩)], .int .i64 (x.val : Nat), undef, undef, undef, undef, undef, undef, undef], defers := [] }) ?assign ?body ?done ?stop
  case assign =>
    intro l x W K hK
    gi_wp2
    exact hK
  case body =>
    rintro l pre x W ⟨hM, hO, hS, hB⟩ hlt
    have hcO := hO.cell
    have hfO := hO.frozen
    have hxp := x.2
    have hcM := hM.cell x.val x.2
    have h0x : (0 : Int) ≤ ((x.val : Nat) : Int) := by omega
    have h64 : ((x.val : Nat) : Int) < 64 := by omega
    have hsz : w.heap.size + 1 + 1 < W.heap.size := hS.lt
    have hor := or_u64 (orAll_lt hR'.out pre) (hR'.out x.val)
    rw [← orAll_snoc] at hor
    have hmx : Try.prog.follows .mixedOrders = true := by kernel_rfl
    gi_wp2
    gi_region_with_o (fail)
    all_goals gi_wp2
    all_goals
      have O2 := hO.set (.int .u64 ((orAll R (pre ++ [x]) : Nat) : Int))
      have S2 := hS.other (B' := w.heap.size + 1) (by omega) (.int .u64 ((orAll R (pre ++ [x]) : Nat) : Int))
      have M2 := hM.other (B := w.heap.size + 1) (by omega) 0 (.int .u64 ((orAll R (pre ++ [x]) : Nat) : Int))
      exact ⟨((KeepsOthers.setCell _ _ _).trans (KeepsOthers.drew _)).from _, KC_of hS S2, M2, O2, S2, (hB.setCell (p := ⟨w.heap.size + 1, 0, none⟩) (by simp) _).drew⟩
  case done =>
    rintro D ys W hD rfl ⟨hM, hO, hS, hB⟩ hK
    have hc := hO.cell
    gi_wp2
    refine ⟨by simp, .inl ⟨_, _, rfl, run_takeDeferred hK, ?_⟩⟩
    exact ⟨_, results_tmp rfl _ _ _, rfl, hB.trans (belowK_b (w := w) (Nat.le_refl _) W D _ _ (by simp at hD; omega) hK rfl rfl)⟩
  case stop =>
    rintro D c pre W _ _ h _
    exact h.elim
end Go.Proofs.Ytbbmibabjffcaaa.Q
