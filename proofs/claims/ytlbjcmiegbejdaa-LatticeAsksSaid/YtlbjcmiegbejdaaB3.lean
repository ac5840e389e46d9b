/- Words on a block that holds a relation: 64 rows, and how many there are. -/
import Derived.Test.YtlbjcmiegbejdaaB2
import Derived.Laws.IdiomCopy
import Derived.Laws.CopyOwn
import Derived.Deep.MidRow
namespace Go.Proofs.Ytlbjcmiegbejdaa.Q
open Go.RowKit Go.Shelf
set_option linter.unusedVariables false
set_option linter.unusedSimpArgs false
/-- A relation's cells. -/
def mcells (R : Nat → Nat) (n : Nat) : List Value := (List.range 64).map (fun i => Value.int .u64 ((R i : Nat) : Int)) ++ [Value.int .i64 ((n : Nat) : Int)]
theorem mcells_len (R : Nat → Nat) (n : Nat) : (mcells R n).length = 65 := by simp [mcells]
theorem mcells_at (R : Nat → Nat) (n i : Nat) (hi : i < 64) : (mcells R n)[i]? = some (.int .u64 ((R i : Nat) : Int)) := by
  unfold mcells
  rw [List.getElem?_append_left (by simpa using hi), List.getElem?_map, List.getElem?_range hi]
  rfl
theorem mcells_n (R : Nat → Nat) (n : Nat) : (mcells R n)[64]? = some (.int .i64 ((n : Nat) : Int)) := by
  unfold mcells
  rw [List.getElem?_append_right (by simp)]
  simp
theorem mcells_one (R : Nat → Nat) (n : Nat) : ∀ v ∈ mcells R n, v.oneCell' = true := by
  intro v hv
  simp only [mcells, List.mem_append, List.mem_map, List.mem_singleton] at hv
  rcases hv with ⟨i, _, rfl⟩ | rfl <;> rfl
theorem mcells_ext {R S : Nat → Nat} (h : ∀ i, i < 64 → R i = S i) (n : Nat) : mcells R n = mcells S n := by
  unfold mcells
  congr 1
  exact List.map_congr_left fun i hi => by rw [h i (List.mem_range.1 hi)]
def upd (R : Nat → Nat) (i v : Nat) : Nat → Nat := fun k => if k = i then v else R k
theorem mcells_set (R : Nat → Nat) (n i v : Nat) (hi : i < 64) : (mcells R n).set i (.int .u64 ((v : Nat) : Int)) = mcells (upd R i v) n := by
  apply List.ext_getElem?
  intro j
  rw [List.getElem?_set]
  by_cases hj : i = j
  · subst hj
    rw [if_pos rfl, if_pos (by rw [mcells_len]; omega), mcells_at _ _ _ hi]
    have e : upd R i v i = v := by unfold upd; rw [if_pos rfl]
    rw [e]
  · rw [if_neg hj]
    by_cases h64 : j < 64
    · rw [mcells_at _ _ _ h64, mcells_at _ _ _ h64]
      simp [upd, show ¬ j = i by omega]
    · by_cases he : j = 64
      · subst he; rw [mcells_n, mcells_n]
      · rw [List.getElem?_eq_none (by rw [mcells_len]; omega), List.getElem?_eq_none (by rw [mcells_len]; omega)]
theorem mcells_setn (R : Nat → Nat) (n m : Nat) : (mcells R n).set 64 (.int .i64 ((m : Nat) : Int)) = mcells R m := by
  apply List.ext_getElem?
  intro j
  rw [List.getElem?_set]
  by_cases hj : 64 = j
  · subst hj
    rw [if_pos rfl, if_pos (by rw [mcells_len]; omega)]
    exact (mcells_n R m).symm
  · rw [if_neg hj]
    by_cases h64 : j < 64
    · rw [mcells_at _ _ _ h64, mcells_at _ _ _ h64]
    · rw [List.getElem?_eq_none (by rw [mcells_len]; omega), List.getElem?_eq_none (by rw [mcells_len]; omega)]
/-- Block b holds a relation. -/
def MatAt (W : World) (b : Nat) (R : Nat → Nat) (n : Nat) : Prop := W.heap[b]? = some (.cells (mcells R n).toArray 83 (0, 0))
theorem MatAt.lt {W : World} {b n : Nat} {R : Nat → Nat} (h : MatAt W b R n) : b < W.heap.size := (Array.getElem?_eq_some_iff.1 h).1
theorem MatAt.cell {W : World} {b n : Nat} {R : Nat → Nat} (h : MatAt W b R n) (i : Nat) (hi : i < 64) : W.cell? ⟨b, i, none⟩ = some (.int .u64 ((R i : Nat) : Int)) := by
  unfold World.cell?
  rw [show W.heap[b]? = _ from h]
  simpa using mcells_at R n i hi
theorem MatAt.num {W : World} {b n : Nat} {R : Nat → Nat} (h : MatAt W b R n) : W.cell? ⟨b, 64, none⟩ = some (.int .i64 ((n : Nat) : Int)) := by
  unfold World.cell?
  rw [show W.heap[b]? = _ from h]
  simpa using mcells_n R n
theorem MatAt.frozen {W : World} {b n : Nat} {R : Nat → Nat} (h : MatAt W b R n) (o : Nat) : W.frozen? ⟨b, o, none⟩ = false := by
  unfold World.frozen?
  rw [show W.heap[b]? = _ from h]
  simp
theorem MatAt.range {W : World} {b n : Nat} {R : Nat → Nat} (h : MatAt W b R n) : W.rangeAt b 0 (mcells R n) := fun j v hv => by
  unfold World.cell?
  rw [show W.heap[b]? = _ from h]
  simpa using hv
theorem MatAt.there {W : World} {b n : Nat} {R : Nat → Nat} (h : MatAt W b R n) : W.there b 0 65 := fun j hj => by
  refine ⟨?_, by simpa using h.frozen (0 + j)⟩
  unfold World.cell?
  rw [show W.heap[b]? = _ from h]
  simp [mcells_len, hj]
theorem MatAt.kept {W W' : World} {row : Option Nat} {b n : Nat} {R : Nat → Nat} (h : MatAt W b R n) (hg : W.grownBy W' row) (hne : some b ≠ row) : MatAt W' b R n := (hg.block b h.lt hne).trans h
theorem MatAt.alloc {W : World} {b n : Nat} {R : Nat → Nat} (h : MatAt W b R n) (o : Obj) : MatAt (W.alloc o) b R n := h.kept (World.grownBy_alloc W o none) (by simp)
theorem MatAt.below {W W' : World} {b n : Nat} {R : Nat → Nat} (h : MatAt W b R n) (hb : Below W.heap.size W W') : MatAt W' b R n := (hb.block b h.lt).trans h
theorem MatAt.drew {W : World} {b n : Nat} {R : Nat → Nat} (h : MatAt W b R n) : MatAt W.drew b R n := h
theorem MatAt.new (W : World) (R : Nat → Nat) (n : Nat) : MatAt (W.alloc (.cells (mcells R n).toArray 83)) W.heap.size R n := World.alloc_heap_new W _
theorem MatAt.other {W : World} {b B n : Nat} {R : Nat → Nat} (h : MatAt W b R n) (hne : b ≠ B) (o : Nat) (u : Value) : MatAt (W.setCell ⟨B, o, none⟩ u) b R n := (Below.heap_setCell W ⟨B, o, none⟩ u b hne).trans h
theorem heap_setCell_in {W : World} {b o : Nat} {cs : Array Value} {t : TypeId} (h : W.heap[b]? = some (.cells cs t (0, 0))) (v : Value) : (W.setCell ⟨b, o, none⟩ v).heap[b]? = some (.cells (cs.setIfInBounds o v) t (0, 0)) := by
  obtain ⟨hlt, hk⟩ := Array.getElem?_eq_some_iff.1 h
  show (W.heap.modify b _)[b]? = _
  rw [Array.getElem?_eq_getElem (by rw [Array.size_modify]; exact hlt), Array.getElem_modify_self, hk]
  rfl
theorem MatAt.set {W : World} {b n : Nat} {R : Nat → Nat} (h : MatAt W b R n) (i v : Nat) (hi : i < 64) : MatAt (W.setCell ⟨b, i, none⟩ (.int .u64 ((v : Nat) : Int))) b (upd R i v) n := by
  refine (heap_setCell_in h _).trans ?_
  rw [List.setIfInBounds_toArray, mcells_set R n i v hi]
theorem MatAt.setn {W : World} {b n : Nat} {R : Nat → Nat} (h : MatAt W b R n) (m : Nat) : MatAt (W.setCell ⟨b, 64, none⟩ (.int .i64 ((m : Nat) : Int))) b R m := by
  refine (heap_setCell_in h _).trans ?_
  rw [List.setIfInBounds_toArray, mcells_setn]
theorem heap_setCells_in {b : Nat} {t : TypeId} : ∀ (vs : List Value) (o : Nat) (W : World) (cs : List Value), W.heap[b]? = some (.cells cs.toArray t (0, 0)) → o + vs.length ≤ cs.length →
    (W.setCells b o vs).heap[b]? = some (.cells (cs.take o ++ vs ++ cs.drop (o + vs.length)).toArray t (0, 0))
  | [], o, W, cs, h, hl => by simpa [World.setCells] using h
  | v :: r, o, W, cs, h, hl => by
    have h1 := heap_setCell_in (o := o) h v
    rw [List.setIfInBounds_toArray] at h1
    have h2 := heap_setCells_in r (o + 1) _ _ h1 (by simp at hl ⊢; omega)
    rw [World.setCells, h2]
    have hlt : o < cs.length := by simp at hl; omega
    have e : cs.set o v = cs.take o ++ v :: cs.drop (o + 1) := by rw [List.set_eq_take_append_cons_drop, if_pos hlt]
    have hto : (cs.take o).length = o := by simp; omega
    have e1 : (cs.set o v).take (o + 1) = cs.take o ++ [v] := by
      rw [e, List.take_append, hto, List.take_of_length_le (by omega)]
      simp
    have e2 : (cs.set o v).drop (o + 1 + r.length) = cs.drop (o + (v :: r).length) := by
      rw [List.drop_set_of_lt (by omega)]
      congr 1
      simp; omega
    rw [e1, e2]
    simp
theorem grownBy_setCells {b : Nat} : ∀ (vs : List Value) (o : Nat) (W : World), W.grownBy (W.setCells b o vs) (some b)
  | [], o, W => ⟨rfl, rfl, rfl, Nat.le_refl _, fun _ _ _ => rfl⟩
  | v :: r, o, W => by
    have h := grownBy_setCells (b := b) r (o + 1) (W.setCell ⟨b, o, none⟩ v)
    refine ⟨h.os, h.tape, h.output, ?_, fun k hk hne => ?_⟩
    · have := h.size
      simpa [World.size_setCell, World.setCells] using this
    · have hk' : k ≠ b := fun e => hne (by rw [e])
      exact (h.block k (by simpa [World.size_setCell] using hk) hne).trans (Below.heap_setCell W ⟨b, o, none⟩ v k hk')
theorem MatAt.store {W : World} {b n m : Nat} {R S : Nat → Nat} (h : MatAt W b R n) : MatAt (W.setCells b 0 (mcells S m)) b S m := by
  have h_ := heap_setCells_in (mcells S m) 0 W (mcells R n) h (by rw [mcells_len, mcells_len]; omega)
  refine h_.trans ?_
  rw [List.take_zero, mcells_len, List.drop_of_length_le (by rw [mcells_len]; omega)]
  simp
theorem MatAt.apart {W : World} {b B n : Nat} {R : Nat → Nat} (h : MatAt W b R n) (hne : b ≠ B) (o : Nat) (vs : List Value) : MatAt (W.setCells B o vs) b R n :=
  h.kept (grownBy_setCells vs o W) (fun e => hne (by simpa using e))
theorem below_setCells {B : Nat} {w W : World} (hb : Below B w W) (hB : B ≤ W.heap.size) {b : Nat} (h : B ≤ b) (o : Nat) (vs : List Value) : Below B w (W.setCells b o vs) :=
  hb.grown (grownBy_setCells vs o W) hB (fun k e => by cases e; exact h)
end Go.Proofs.Ytlbjcmiegbejdaa.Q
