/- Layer 11: words on a block that holds a table: 32 places of four cells, how many are given, whether it was made. -/
import Derived.Test.YtcpaakhmcpeagaaV
import Derived.Test.YtcpaakhmcpeagaaQx0
import Derived.Laws.IdiomCopy
import Derived.Laws.CopyOwn
import Derived.Deep.MidRow
namespace Go.Proofs.Ytcpaakhmcpeagaa.Q
open Go.RowKit
set_option linter.unusedVariables false
set_option linter.unusedSimpArgs false
/-- A place: its generation, whether it is taken, its channel and rights. -/
structure Pl where
  g : Int
  t : Bool
  c : Int
  r : Int
def pl4 (p : Pl) : List Value := [.int .i64 p.g, .bool p.t, .int .i64 p.c, .int .u8 p.r]
theorem pl4_len (p : Pl) : (pl4 p).length = 4 := rfl
theorem fm4 {α : Type} (f : α → List Value) (hf : ∀ a, (f a).length = 4) (rest : List Value) : ∀ (l : List α) (i j : Nat) (a : α), j < 4 → l[i]? = some a → (l.flatMap f ++ rest)[i * 4 + j]? = (f a)[j]?
  | [], i, j, a, hj, h => by simp at h
  | x :: l, 0, j, a, hj, h => by
    simp only [List.getElem?_cons_zero, Option.some.injEq] at h
    subst h
    rw [List.flatMap_cons, List.append_assoc, List.getElem?_append_left (by rw [hf]; omega)]
    congr 1; omega
  | x :: l, i + 1, j, a, hj, h => by
    rw [List.getElem?_cons_succ] at h
    rw [List.flatMap_cons, List.append_assoc, List.getElem?_append_right (by rw [hf]; omega), hf]
    rw [show (i + 1) * 4 + j - 4 = i * 4 + j by omega]
    exact fm4 f hf rest l i j a hj h
theorem fm4_len {α : Type} (f : α → List Value) (hf : ∀ a, (f a).length = 4) : ∀ (l : List α), (l.flatMap f).length = l.length * 4
  | [] => rfl
  | x :: l => by rw [List.flatMap_cons, List.length_append, hf, fm4_len f hf l, List.length_cons]; omega
def tcells (P : Nat → Pl) (n : Int) (m : Bool) : List Value := (List.range 32).flatMap (fun i => pl4 (P i)) ++ [.int .i64 n, .bool m]
theorem tcells_fl (P : Nat → Pl) : ((List.range 32).flatMap (fun i => pl4 (P i))).length = 128 := by rw [fm4_len _ (fun _ => rfl), List.length_range]
theorem tcells_len (P : Nat → Pl) (n : Int) (m : Bool) : (tcells P n m).length = 130 := by unfold tcells; rw [List.length_append, tcells_fl]; rfl
theorem tcells_at (P : Nat → Pl) (n : Int) (m : Bool) (i j : Nat) (hi : i < 32) (hj : j < 4) : (tcells P n m)[i * 4 + j]? = (pl4 (P i))[j]? :=
  fm4 (fun i => pl4 (P i)) (fun _ => rfl) _ (List.range 32) i j i hj (List.getElem?_range hi)
theorem tcells_n (P : Nat → Pl) (n : Int) (m : Bool) : (tcells P n m)[128]? = some (.int .i64 n) := by
  unfold tcells
  rw [List.getElem?_append_right (by rw [tcells_fl]; omega), tcells_fl]; rfl
theorem tcells_m (P : Nat → Pl) (n : Int) (m : Bool) : (tcells P n m)[129]? = some (.bool m) := by
  unfold tcells
  rw [List.getElem?_append_right (by rw [tcells_fl]; omega), tcells_fl]; rfl
def upd (P : Nat → Pl) (i : Nat) (p : Pl) : Nat → Pl := fun k => if k = i then p else P k
theorem upd_same (P : Nat → Pl) (i : Nat) (p : Pl) : upd P i p i = p := by unfold upd; rw [if_pos rfl]
theorem upd_ne (P : Nat → Pl) (i k : Nat) (p : Pl) (h : k ≠ i) : upd P i p k = P k := by unfold upd; rw [if_neg h]
theorem upd_upd (P : Nat → Pl) (i : Nat) (p q : Pl) : upd (upd P i p) i q = upd P i q := by funext k; unfold upd; split <;> rfl
/-- The cells, told by their numbers. -/
theorem tcells_ext {l : List Value} {P : Nat → Pl} {n : Int} {m : Bool} (hl : l.length = 130) (h1 : ∀ i j, i < 32 → j < 4 → l[i * 4 + j]? = (pl4 (P i))[j]?) (h2 : l[128]? = some (.int .i64 n)) (h3 : l[129]? = some (.bool m)) : l = tcells P n m := by
  apply List.ext_getElem?
  intro k
  by_cases hk : k < 128
  · have e : k = (k / 4) * 4 + k % 4 := by omega
    rw [e, h1 (k / 4) (k % 4) (by omega) (by omega), tcells_at _ _ _ _ _ (by omega) (by omega)]
  · by_cases h128 : k = 128
    · subst h128; rw [h2, tcells_n]
    · by_cases h129 : k = 129
      · subst h129; rw [h3, tcells_m]
      · rw [List.getElem?_eq_none (by omega), List.getElem?_eq_none (by rw [tcells_len]; omega)]
theorem tcells_set (P : Nat → Pl) (n : Int) (m : Bool) (i j : Nat) (v : Value) (p : Pl) (hi : i < 32) (hj : j < 4) (hp : (pl4 (P i)).set j v = pl4 p) : (tcells P n m).set (i * 4 + j) v = tcells (upd P i p) n m := by
  refine tcells_ext (by rw [List.length_set, tcells_len]) (fun a b ha hb => ?_) ?_ ?_
  · rw [List.getElem?_set]
    by_cases e : i * 4 + j = a * 4 + b
    · obtain rfl : i = a := by omega
      obtain rfl : j = b := by omega
      rw [if_pos rfl, if_pos (by rw [tcells_len]; omega), upd_same, ← hp, List.getElem?_set, if_pos rfl, if_pos (by rw [pl4_len]; omega)]
    · rw [if_neg e, tcells_at _ _ _ _ _ ha hb]
      by_cases hia : a = i
      · subst hia
        rw [upd_same, ← hp, List.getElem?_set, if_neg (by omega)]
      · rw [upd_ne _ _ _ _ hia]
  · rw [List.getElem?_set, if_neg (by omega), tcells_n]
  · rw [List.getElem?_set, if_neg (by omega), tcells_m]
/-- Block b holds a table. -/
def TabAt (W : World) (b : Nat) (P : Nat → Pl) (n : Int) (m : Bool) : Prop := W.heap[b]? = some (.cells (tcells P n m).toArray 62 (0, 0))
section
variable {W W' : World} {b : Nat} {P : Nat → Pl} {n : Int} {m : Bool}
theorem TabAt.lt (h : TabAt W b P n m) : b < W.heap.size := (Array.getElem?_eq_some_iff.1 h).1
theorem TabAt.cellk (h : TabAt W b P n m) (k : Nat) (v : Value) (hv : (tcells P n m)[k]? = some v) : W.cell? ⟨b, k, none⟩ = some v := by
  unfold World.cell?
  rw [show W.heap[b]? = _ from h]
  simpa using hv
theorem TabAt.g (h : TabAt W b P n m) (i : Nat) (hi : i < 32) : W.cell? ⟨b, i * 4, none⟩ = some (.int .i64 (P i).g) := h.cellk _ _ (tcells_at P n m i 0 hi (by omega))
theorem TabAt.t (h : TabAt W b P n m) (i : Nat) (hi : i < 32) : W.cell? ⟨b, i * 4 + 1, none⟩ = some (.bool (P i).t) := h.cellk _ _ (tcells_at P n m i 1 hi (by omega))
theorem TabAt.c (h : TabAt W b P n m) (i : Nat) (hi : i < 32) : W.cell? ⟨b, i * 4 + 2, none⟩ = some (.int .i64 (P i).c) := h.cellk _ _ (tcells_at P n m i 2 hi (by omega))
theorem TabAt.r (h : TabAt W b P n m) (i : Nat) (hi : i < 32) : W.cell? ⟨b, i * 4 + 3, none⟩ = some (.int .u8 (P i).r) := h.cellk _ _ (tcells_at P n m i 3 hi (by omega))
theorem TabAt.num (h : TabAt W b P n m) : W.cell? ⟨b, 128, none⟩ = some (.int .i64 n) := h.cellk _ _ (tcells_n P n m)
theorem TabAt.made (h : TabAt W b P n m) : W.cell? ⟨b, 129, none⟩ = some (.bool m) := h.cellk _ _ (tcells_m P n m)
theorem TabAt.frozen (h : TabAt W b P n m) (o : Nat) : W.frozen? ⟨b, o, none⟩ = false := by
  unfold World.frozen?
  rw [show W.heap[b]? = _ from h]
  simp
theorem TabAt.below (h : TabAt W b P n m) (hb : Below W.heap.size W W') : TabAt W' b P n m := (hb.block b h.lt).trans h
theorem TabAt.alloc (h : TabAt W b P n m) (o : Obj) : TabAt (W.alloc o) b P n m := h.below ((Below.refl _ W).alloc (Nat.le_refl _) o)
theorem TabAt.drew (h : TabAt W b P n m) : TabAt W.drew b P n m := h
theorem TabAt.other {B : Nat} (h : TabAt W b P n m) (hne : b ≠ B) (o : Nat) (u : Value) : TabAt (W.setCell ⟨B, o, none⟩ u) b P n m := (Below.heap_setCell W ⟨B, o, none⟩ u b hne).trans h
end
theorem heap_setCell_in {W : World} {b o : Nat} {cs : Array Value} {t : TypeId} (h : W.heap[b]? = some (.cells cs t (0, 0))) (v : Value) : (W.setCell ⟨b, o, none⟩ v).heap[b]? = some (.cells (cs.setIfInBounds o v) t (0, 0)) := by
  obtain ⟨hlt, hk⟩ := Array.getElem?_eq_some_iff.1 h
  show (W.heap.modify b _)[b]? = _
  rw [Array.getElem?_eq_getElem (by rw [Array.size_modify]; exact hlt), Array.getElem_modify_self, hk]
  rfl
theorem TabAt.set {W : World} {b : Nat} {P : Nat → Pl} {n : Int} {m : Bool} (h : TabAt W b P n m) (i j : Nat) (v : Value) (p : Pl) (hi : i < 32) (hj : j < 4) (hp : (pl4 (P i)).set j v = pl4 p) : TabAt (W.setCell ⟨b, i * 4 + j, none⟩ v) b (upd P i p) n m := by
  refine (heap_setCell_in h _).trans ?_
  rw [List.setIfInBounds_toArray, tcells_set P n m i j v p hi hj hp]
/-- Between two worlds only block b was written (what is newer may lie anywhere). -/
structure Only (b : Nat) (W W' : World) : Prop where
  os : W'.os = W.os
  tape : W'.tape = W.tape
  output : W'.output = W.output
  size : W.heap.size ≤ W'.heap.size
  block : ∀ k, k < W.heap.size → k ≠ b → W'.heap[k]? = W.heap[k]?
theorem Only.of {b : Nat} {W W' : World} (h : Below W.heap.size W W') : Only b W W' := ⟨h.os, h.tape, h.output, h.size, fun k hk _ => h.block k hk⟩
theorem Only.refl (b : Nat) (W : World) : Only b W W := Only.of (Below.refl _ W)
theorem Only.trans {b : Nat} {W W' W'' : World} (h : Only b W W') (h2 : Only b W' W'') : Only b W W'' :=
  ⟨h2.os.trans h.os, h2.tape.trans h.tape, h2.output.trans h.output, Nat.le_trans h.size h2.size, fun k hk hne => (h2.block k (Nat.lt_of_lt_of_le hk h.size) hne).trans (h.block k hk hne)⟩
theorem Only.set {b : Nat} {W W' : World} (h : Only b W W') (o : Nat) (v : Value) : Only b W (W'.setCell ⟨b, o, none⟩ v) :=
  h.trans ⟨rfl, rfl, rfl, by rw [World.size_setCell]; exact Nat.le_refl _, fun k _ hne => Below.heap_setCell W' ⟨b, o, none⟩ v k hne⟩
theorem Only.alloc {b : Nat} {W W' : World} (h : Only b W W') (o : Obj) : Only b W (W'.alloc o) := h.trans (Only.of ((Below.refl _ W').alloc (Nat.le_refl _) o))
theorem Only.drew {b : Nat} {W W' : World} (h : Only b W W') : Only b W W'.drew := h.trans (Only.of (Below.refl _ W').drew)
theorem Only.next {b : Nat} {W W' W'' : World} (h : Only b W W') (k : Below W'.heap.size W' W'') : Only b W W'' := h.trans (Only.of k)
/-- What lay before a table was made lies as it lay. -/
theorem Below.only {w W W' : World} {b : Nat} (h : Below w.heap.size w W) (hb : w.heap.size ≤ b) (k : Only b W W') : Below w.heap.size w W' :=
  h.trans ⟨k.os, k.tape, k.output, k.size, fun i hi => k.block i (Nat.lt_of_lt_of_le hi h.size) (by omega)⟩
theorem Only.cell {b : Nat} {W W' : World} (h : Only b W W') {a : Addr} {v : Value} (hc : W.cell? a = some v) (hne : a.block ≠ b) : W'.cell? a = some v :=
  (World.cell?_of_block (h.block _ (World.block_lt_of_cell? W a hc) hne)).trans hc
end Go.Proofs.Ytcpaakhmcpeagaa.Q
