/- Layer 11: the reference's table: its words. -/
import Derived.Test.YtcpaakhmcpeagaaC11
namespace Go.Proofs.Ytcpaakhmcpeagaa.Q
open Go.RowKit Go.Proofs.YtcpaakhmcpeagaaW.PrintWords Go.Proofs.YtcpaakhmcpeagaaW.PrintMore
set_option linter.unusedVariables false
set_option linter.unusedSimpArgs false
/-- A place, as the reference lays it. -/
def rl4 (p : Pl) : List Value := [.bool p.t, .int .i64 p.g, .int .i64 p.c, .int .u8 p.r]
theorem rl4_len (p : Pl) : (rl4 p).length = 4 := rfl
/-- Block vb holds the first n places. -/
def RowAt (W : World) (vb : Nat) (P : Nat → Pl) (n : Nat) : Prop := ∃ cur : List Value, W.heap[vb]? = some (.cells cur.toArray 75 (0, 0)) ∧ ∀ i j, i < n → j < 4 → cur[i * 4 + j]? = (rl4 (P i))[j]?
/-- Block rb holds the reference's table. -/
def RT (W : World) (rb : Nat) (A : Option Addr) (c n : Nat) (P : Nat → Pl) : Prop := W.heap[rb]? = some (.cells #[.slice A n c] 73 (0, 0)) ∧ n ≤ c ∧ (0 < n → ∃ vb, A = some ⟨vb, 0, none⟩ ∧ RowAt W vb P n)
section
variable {W W' : World} {rb vb c n : Nat} {A : Option Addr} {P : Nat → Pl}
theorem RowAt.lt (h : RowAt W vb P n) : vb < W.heap.size := by obtain ⟨cur, h, _⟩ := h; exact (Array.getElem?_eq_some_iff.1 h).1
theorem RowAt.cellk (h : RowAt W vb P n) (i j : Nat) (v : Value) (hi : i < n) (hj : j < 4) (hv : (rl4 (P i))[j]? = some v) : W.cell? ⟨vb, i * 4 + j, none⟩ = some v := by
  obtain ⟨cur, h, hc⟩ := h
  unfold World.cell?
  rw [show W.heap[vb]? = _ from h]
  have := hc i j hi hj
  rw [hv] at this
  simpa using this
theorem RowAt.frozen (h : RowAt W vb P n) (o : Nat) : W.frozen? ⟨vb, o, none⟩ = false := by
  obtain ⟨cur, h, hc⟩ := h
  unfold World.frozen?
  rw [show W.heap[vb]? = _ from h]
  simp
theorem RowAt.same (h : RowAt W vb P n) (e : W'.heap[vb]? = W.heap[vb]?) : RowAt W' vb P n := by
  obtain ⟨cur, h, hc⟩ := h
  exact ⟨cur, e.trans h, hc⟩
theorem RowAt.set (h : RowAt W vb P n) (i j : Nat) (v : Value) (p : Pl) (hi : i < n) (hj : j < 4) (hp : (rl4 (P i)).set j v = rl4 p) : RowAt (W.setCell ⟨vb, i * 4 + j, none⟩ v) vb (upd P i p) n := by
  obtain ⟨cur, h, hc⟩ := h
  refine ⟨cur.set (i * 4 + j) v, ?_, fun a b ha hb => ?_⟩
  · refine (heap_setCell_in h _).trans ?_
    rw [List.setIfInBounds_toArray]
  · have hlen : i * 4 + j < cur.length := by
      have h_ := hc i j hi hj
      rw [List.getElem?_eq_getElem (show j < (rl4 (P i)).length by rw [rl4_len]; exact hj)] at h_
      exact (List.getElem?_eq_some_iff.1 h_).1
    rw [List.getElem?_set]
    by_cases e : i * 4 + j = a * 4 + b
    · obtain rfl : i = a := by omega
      obtain rfl : j = b := by omega
      rw [if_pos rfl, if_pos hlen, upd_same, ← hp, List.getElem?_set, if_pos rfl, if_pos (by rw [rl4_len]; omega)]
    · rw [if_neg e, hc a b ha hb]
      by_cases hia : a = i
      · subst hia
        rw [upd_same, ← hp, List.getElem?_set, if_neg (by omega)]
      · rw [upd_ne _ _ _ _ hia]
theorem RT.cell0 (h : RT W rb A c n P) : W.cell? ⟨rb, 0, none⟩ = some (.slice A n c) := by
  unfold World.cell?
  rw [show W.heap[rb]? = _ from h.1]
  rfl
theorem RT.lt (h : RT W rb A c n P) : rb < W.heap.size := (Array.getElem?_eq_some_iff.1 h.1).1
theorem RT.get (h : RT W rb A c n P) (i : Nat) (hi : i < n) : ∃ vb, A = some ⟨vb, 0, none⟩ ∧ RowAt W vb P n ∧ W.cell? ⟨vb, i * 4, none⟩ = some (.bool (P i).t) ∧ W.cell? ⟨vb, i * 4 + 1, none⟩ = some (.int .i64 (P i).g) ∧ W.cell? ⟨vb, i * 4 + 2, none⟩ = some (.int .i64 (P i).c) ∧ W.cell? ⟨vb, i * 4 + 3, none⟩ = some (.int .u8 (P i).r) := by
  obtain ⟨vb, e, hr⟩ := h.2.2 (by omega)
  exact ⟨vb, e, hr, hr.cellk i 0 _ hi (by omega) rfl, hr.cellk i 1 _ hi (by omega) rfl, hr.cellk i 2 _ hi (by omega) rfl, hr.cellk i 3 _ hi (by omega) rfl⟩
theorem RT.same (h : RT W rb A c n P) (e : ∀ k, k < W.heap.size → (k = rb ∨ some k = A.map (·.block)) → W'.heap[k]? = W.heap[k]?) : RT W' rb A c n P := by
  refine ⟨(e rb h.lt (.inl rfl)).trans h.1, h.2.1, fun hp => ?_⟩
  obtain ⟨vb, ea, hr⟩ := h.2.2 hp
  exact ⟨vb, ea, hr.same (e vb hr.lt (.inr (by rw [ea]; rfl)))⟩
theorem RT.below (h : RT W rb A c n P) (hb : Below W.heap.size W W') : RT W' rb A c n P := h.same (fun k hk _ => hb.block k hk)
theorem RT.alloc (h : RT W rb A c n P) (o : Obj) : RT (W.alloc o) rb A c n P := h.below ((Below.refl _ W).alloc (Nat.le_refl _) o)
/-- The two tables lie apart. -/
theorem RT.ne_tab {b : Nat} {Q : Nat → Pl} {m : Int} {md : Bool} (h : RT W rb A c n P) (hT : TabAt W b Q m md) : rb ≠ b := by
  rintro rfl
  have h1 := h.1
  rw [show W.heap[rb]? = _ from hT] at h1
  injection h1 with h1
  injection h1 with _ h1
  exact absurd h1 (by decide)
theorem RT.row_ne_tab {b : Nat} {Q : Nat → Pl} {m : Int} {md : Bool} (h : RT W rb A c n P) (hn : 0 < n) (hT : TabAt W b Q m md) : some b ≠ A.map (·.block) := by
  obtain ⟨vb, e, cur, hr, _⟩ := h.2.2 hn
  rw [e]
  intro e2
  injection e2 with e2
  have e3 : b = vb := e2
  subst e3
  rw [show W.heap[b]? = _ from hT] at hr
  injection hr with hr
  injection hr with _ hr
  exact absurd hr (by decide)
theorem RT.row_ne (h : RT W rb A c n P) (hn : 0 < n) : some rb ≠ A.map (·.block) := by
  obtain ⟨vb, e, cur, hr, _⟩ := h.2.2 hn
  rw [e]
  intro e2
  injection e2 with e2
  have e3 : rb = vb := e2
  subst e3
  rw [h.1] at hr
  injection hr with hr
  injection hr with _ hr
  exact absurd hr (by decide)
theorem RT.only {b : Nat} {Q : Nat → Pl} {m : Int} {md : Bool} (h : RT W rb A c n P) (hT : TabAt W b Q m md) (hk : Only b W W') : RT W' rb A c n P := by
  refine ⟨(hk.block rb h.lt (h.ne_tab hT)).trans h.1, h.2.1, fun hp => ?_⟩
  obtain ⟨vb, e, hr⟩ := h.2.2 hp
  exact ⟨vb, e, hr.same (hk.block vb hr.lt (fun e2 => h.row_ne_tab hp hT (by rw [e, ← e2]; rfl)))⟩
end
/-- Between two worlds only the reference's row was written. -/
structure OnlyR (A : Option Addr) (W W' : World) : Prop where
  os : W'.os = W.os
  tape : W'.tape = W.tape
  output : W'.output = W.output
  size : W.heap.size ≤ W'.heap.size
  block : ∀ k, k < W.heap.size → some k ≠ A.map (·.block) → W'.heap[k]? = W.heap[k]?
theorem OnlyR.of {A : Option Addr} {W W' : World} (h : Below W.heap.size W W') : OnlyR A W W' := ⟨h.os, h.tape, h.output, h.size, fun k hk _ => h.block k hk⟩
theorem OnlyR.trans {A : Option Addr} {W W' W'' : World} (h : OnlyR A W W') (h2 : OnlyR A W' W'') : OnlyR A W W'' :=
  ⟨h2.os.trans h.os, h2.tape.trans h.tape, h2.output.trans h.output, Nat.le_trans h.size h2.size, fun k hk hne => (h2.block k (Nat.lt_of_lt_of_le hk h.size) hne).trans (h.block k hk hne)⟩
theorem OnlyR.set {vb : Nat} {W W' : World} (h : OnlyR (some ⟨vb, 0, none⟩) W W') (o : Nat) (v : Value) : OnlyR (some ⟨vb, 0, none⟩) W (W'.setCell ⟨vb, o, none⟩ v) :=
  h.trans ⟨rfl, rfl, rfl, by rw [World.size_setCell]; exact Nat.le_refl _, fun k _ hne => Below.heap_setCell W' ⟨vb, o, none⟩ v k (fun e => hne (by rw [e]; rfl))⟩
theorem OnlyR.drew {A : Option Addr} {W W' : World} (h : OnlyR A W W') : OnlyR A W W'.drew := h.trans (OnlyR.of (Below.refl _ W').drew)
theorem OnlyR.next {A : Option Addr} {W W' W'' : World} (h : OnlyR A W W') (k : Below W'.heap.size W' W'') : OnlyR A W W'' := h.trans (OnlyR.of k)
theorem OnlyR.cell {A : Option Addr} {W W' : World} (h : OnlyR A W W') {a : Addr} {v : Value} (hc : W.cell? a = some v) (hne : some a.block ≠ A.map (·.block)) : W'.cell? a = some v :=
  (World.cell?_of_block (h.block _ (World.block_lt_of_cell? W a hc) hne)).trans hc
theorem OnlyR.tab {A : Option Addr} {W W' : World} {b : Nat} {Q : Nat → Pl} {m : Int} {md : Bool} (h : OnlyR A W W') (hT : TabAt W b Q m md) (hne : some b ≠ A.map (·.block)) : TabAt W' b Q m md := (h.block b hT.lt hne).trans hT
theorem Below.onlyR {w W W' : World} {A : Option Addr} (h : Below w.heap.size w W) (hb : ∀ a, A = some a → w.heap.size ≤ a.block) (k : OnlyR A W W') : Below w.heap.size w W' :=
  h.trans ⟨k.os, k.tape, k.output, k.size, fun i hi => k.block i (Nat.lt_of_lt_of_le hi h.size) (fun e => by
    cases A with
    | none => cases e
    | some a => injection e with e; have h_ := hb a rfl; have e2 : i = a.block := e; omega)⟩
end Go.Proofs.Ytcpaakhmcpeagaa.Q
