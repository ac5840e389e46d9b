/- Layer 1: a relation's rows as a row. -/
import Derived.Test.YtlbjcmiegbejdaaB3
import Derived.StillTailTactics
import Derived.RegionTactic
import Derived.RegionIn
import Derived.Shelf.RegionOpen
import Derived.Deep.RegionLaw
import Derived.Deep.AppendLies
import Derived.Test.YtlbjcmiegbejdaaWLast
namespace Go.Proofs.Ytlbjcmiegbejdaa.Q
open Go.RowKit Go.Shelf
attribute [local go_sem] Oper.semAt_some
set_option linter.unusedVariables false
set_option linter.unusedSimpArgs false
open Go.Proofs.YtlbjcmiegbejdaaW.PrintWords Go.Proofs.YtlbjcmiegbejdaaW.PrintMore
theorem infoU : (Try.prog.info? 33).map (fun i => (i.zero, i.size, i.bytes)) = some (some (.int .u64 0), 1, 8) := by kernel_rfl
theorem sizeU (W : World) : (sizeOf 33).run Try.prog W = .ok 1 W := by
  have h : (Try.prog.info? 33).map (·.size) = some 1 := by kernel_rfl
  cases hq : Try.prog.info? 33 with
  | none => simp [hq] at h
  | some i =>
    have hs : i.size = 1 := by simpa [hq] using h
    simp [sizeOf, typeInfo, hq, hs]
theorem arrU : Try.prog.underlying 81 = some (.array 64 33) := by kernel_rfl
theorem slice_to (b n : Nat) (hn : n ≤ 64) (W : World) : (Instr.sliceAt 81 (.pointer (some ⟨b, 0, none⟩)) none (some (.int .i64 ((n : Nat) : Int))) none).run Try.prog W = .ok (.slice (some ⟨b, 0, none⟩) n 64) W := by
  have hl : Try.prog.arrayLen 81 = 64 := by kernel_rfl
  have he : Try.prog.elem 81 = 33 := by kernel_rfl
  rw [run_sliceAt_array_h W 81 ⟨b, 0, none⟩ (by rw [hl, he]; exact arrU) .i64 n (by omega) (by rw [hl]; omega), he, sizeU, hl]
  simp [slicedAt, Addr.add, Result.andThen]
theorem slice_all (b : Nat) (W : World) : (Instr.sliceAt 81 (.pointer (some ⟨b, 0, none⟩)) none none none).run Try.prog W = .ok (.slice (some ⟨b, 0, none⟩) 64 64) W := by
  have hl : Try.prog.arrayLen 81 = 64 := by kernel_rfl
  have he : Try.prog.elem 81 = 33 := by kernel_rfl
  rw [run_sliceAt_array_all W 81 ⟨b, 0, none⟩ (by rw [hl, he]; exact arrU), he, sizeU, hl]
  simp [slicedAt, Addr.add, Result.andThen]
/-- The first n rows. -/
def rowsI (R : Nat → Nat) (n : Nat) : List Int := (List.range n).map fun i => ((R i : Nat) : Int)
theorem rowsI_len (R : Nat → Nat) (n : Nat) : (rowsI R n).length = n := by simp [rowsI]
set_option maxRecDepth 100000 in
set_option maxHeartbeats 2000000 in
theorem mlist (R : Nat → Nat) (n : Nat) (hn : n ≤ 64) (w : World) :
    Calls Try.prog 69 #[.agg (mcells R n).toArray] w fun e W' => ∃ v, e = .returned v ∧ Kd.R (Kd.int .u64) 33 W' w.heap.size (fun _ => True) v (rowsI R n) ∧ Below w.heap.size w W' := by
  obtain ⟨i0, hi, hz0, hz1, hz2⟩ := info_parts infoU
  by_cases hn0 : n = 0
  · subst hn0
    have ht : ((((0 : Nat) : Int)) == 0) = true := by decide
    go_enter Try.func69, Try.ntmps69
    go_upto_region 1 with fail
    have hM := MatAt.new w R 0
    have hB1 : Below w.heap.size w (w.alloc (.cells (mcells R 0).toArray 83)) := (Below.refl _ w).alloc (Nat.le_refl _) _
    obtain ⟨W1, hW1⟩ : ∃ W1, W1 = w.alloc (.cells (mcells R 0).toArray 83) := ⟨_, rfl⟩
    rw [← hW1] at hM hB1 ⊢
    clear hW1
    have hnum := hM.num
    go_wp2
    go_ret
    exact ⟨_, rfl, Kd.R_nil _ _ _ _ _, hB1⟩
  · have ht : (((n : Nat) : Int) == 0) = false := by rw [beq_eq_false_iff_ne]; omega
    have hsl := slice_to w.heap.size n hn
    go_enter Try.func69, Try.ntmps69
    go_upto_region 1 with fail
    have hM := MatAt.new w R n
    have hB1 : Below w.heap.size w (w.alloc (.cells (mcells R n).toArray 83)) := (Below.refl _ w).alloc (Nat.le_refl _) _
    obtain ⟨W1, hW1⟩ : ∃ W1, W1 = w.alloc (.cells (mcells R n).toArray 83) := ⟨_, rfl⟩
    rw [← hW1] at hM hB1 ⊢
    clear hW1
    have hnum := hM.num
    have hb : w.heap.size < W1.heap.size := hM.lt
    have hown : (W1.alloc (.cells #[] 33)).ownsRow w.heap.size 33 1 (.slice (some ⟨W1.heap.size, 0, none⟩) 0 0) 0 [] := ⟨by simp, .inr ⟨W1.heap.size, 0, #[], rfl, hB1.size, World.alloc_heap_new W1 _, Nat.le_refl _, by simp [maxLen], by simp, by simp⟩⟩
    have hnews : ∀ j u, ((rowsI R n).map (Value.int .u64))[j]? = some u → (W1.alloc (.cells #[] 33)).cell? ((⟨w.heap.size, 0, none⟩ : Addr).add j) = some u := by
      intro j u hj
      have hjn : j < n := by have := (List.getElem?_eq_some_iff.1 hj).1; simpa [rowsI] using this
      rw [Addr.add_mid, Nat.zero_add, (hM.alloc _).cell j (by omega)]
      simp [rowsI, hjn] at hj
      rw [hj]
    have HO := Lib.hid hown
    have HN := Lib.hid hnews
    clear hown hnews
    go_wp2_with ((with_reducible refine gate_builtin (b := .append) (xs := #[.tmp 6, .tmp 10]) rfl ?_); at_builtin; refine wpList_append_own _ rfl (.tmp 6) (.tmp 10) 22 rfl w.heap.size 33 i0 (.int .u64 0) 1 8 Try.underlying22 hi hz0 hz1 hz2 rfl (by decide) _ 0 [] rfl HO.out ⟨w.heap.size, 0, none⟩ n 64 ((rowsI R n).map (Value.int .u64)) rfl (by simp [rowsI]) HN.out (by simp [Value.oneCell']) (by unfold maxLen; omega) (by omega) (by simp; omega) ?_; intro v' w1 hown' hgrow _)
    go_ret
    refine ⟨_, rfl, Kd.R_of_own (by rw [rowsI_len]; simpa [encs] using hown') (fun _ _ => trivial), ?_⟩
    exact (hB1.alloc hB1.size _).grown hgrow (by simp; omega) (fun k e => by cases e; exact hB1.size)
theorem mat_own {β : Type} (b : Nat) (f : β → Nat → Nat) (n : Nat) : Own (fun s W => MatAt W b (f s) n) := fun s X Y row hs hg hrow =>
  hs.kept hg (fun e' => by obtain ⟨o, ho, hc⟩ := hrow b e'.symm; rw [show X.heap[b]? = _ from hs] at ho; cases ho; cases hc)
theorem or_u64 {a b : Nat} (ha : a < 2 ^ 64) (hb : b < 2 ^ 64) : bits .or .u64 (a : Int) (b : Int) = ((a ||| b : Nat) : Int) := by
  have hw : ∀ n : Int, 0 ≤ n → n < 2 ^ 64 → IntKind.u64.wrap n = n := fun n h0 h1 => by simp [IntKind.wrap, IntKind.bits, IntKind.signed]; omega
  exact (bits_nat .u64 64 (by decide) hw a b ha hb).2
end Go.Proofs.Ytlbjcmiegbejdaa.Q
