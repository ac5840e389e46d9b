/- Layer 11: a table beside a row of told handles. -/
import Derived.Test.YtcpaakhmcpeagaaC16
import Derived.Test.YtcpaakhmcpeagaaC21
namespace Go.Proofs.Ytcpaakhmcpeagaa.Q
open Go.RowKit Go.Proofs.YtcpaakhmcpeagaaW.PrintWords Go.Proofs.YtcpaakhmcpeagaaW.PrintMore
set_option linter.unusedVariables false
set_option linter.unusedSimpArgs false
/-- A told handle and its cap: three cells. -/
def kH : Kd (Int × Int × Int) := Kd.pair (Kd.int .u32) (Kd.pair (Kd.int .i64) (Kd.int .u8))
def hcells (e : Int × Int × Int) : List Value := [.int .u32 e.1, .int .i64 e.2.1, .int .u8 e.2.2]
theorem kH_mk (w : World) (e : Int × Int × Int) : kH.K w e (hcells e) := ⟨[.int .u32 e.1], [.int .i64 e.2.1, .int .u8 e.2.2], rfl, rfl, [.int .i64 e.2.1], [.int .u8 e.2.2], rfl, rfl, rfl⟩
theorem kH_mkM (w : World) (base : Nat) (ok : Nat → Prop) (e : Int × Int × Int) : kH.M w base ok e (hcells e) := ⟨[.int .u32 e.1], [.int .i64 e.2.1, .int .u8 e.2.2], rfl, rfl, [.int .i64 e.2.1], [.int .u8 e.2.2], rfl, rfl, rfl⟩
theorem kH_open {w : World} {e : Int × Int × Int} {cs : List Value} (h : kH.K w e cs) : cs = hcells e := by
  obtain ⟨_, _, rfl, rfl, _, _, rfl, rfl, rfl⟩ := h
  rfl
theorem kH_KM {w : World} {base : Nat} {ok : Nat → Prop} {e : Int × Int × Int} {cs : List Value} (h : kH.K w e cs) : kH.M w base ok e cs := by
  rw [kH_open h]
  exact kH_mkM _ _ _ _
theorem info45' : (Try.prog.info? 45).map (fun i => (i.zero, i.size, i.bytes)) = some (some (.agg #[.int .u32 0, .int .i64 0, .int .u8 0]), 3, 24) := by kernel_rfl
/-- A table and one row of told handles, apart. -/
structure MS (w W : World) (P : Nat → Pl) (v : Value) (T : List (Int × Int × Int)) : Prop where
  tab : TabAt W w.heap.size P (32 : Nat) true
  ok : Ok P
  r : kH.R 45 W w.heap.size (fun _ => True) v T
  d : ∀ k, v.ownBlock = some k → k ≠ w.heap.size
  low : Below w.heap.size w W
section
variable {w W W' : World} {P P' : Nat → Pl} {v v' : Value} {T T' : List (Int × Int × Int)}
theorem MS.start (W : World) (hT : TabAt W w.heap.size P (32 : Nat) true) (ok : Ok P) (hb : Below w.heap.size w W) : MS w W P (.slice none 0 0) [] :=
  ⟨hT, ok, Kd.R_nil _ _ _ _ _, fun k h => by simp [Value.ownBlock] at h, hb⟩
theorem MS.below (S : MS w W P v T) (hb : Below W.heap.size W W') : MS w W' P v T := ⟨S.tab.below hb, S.ok, Kd.R_below S.r hb, S.d, vbelow_step S.low hb⟩
theorem MS.alloc (S : MS w W P v T) (o : Obj) : MS w (W.alloc o) P v T := S.below ((Below.refl _ W).alloc (Nat.le_refl _) o)
theorem MS.only (S : MS w W P v T) (hk : Only w.heap.size W W') (hT : TabAt W' w.heap.size P' (32 : Nat) true) (ok : Ok P') : MS w W' P' v T :=
  ⟨hT, ok, Kd.R_mono (Kd.R_step (Kd.R_tight rfl S.r) (fun k ho hlt => hk.block k hlt (S.d k ho.symm))) (fun _ _ => trivial), S.d, Below.only S.low (Nat.le_refl _) hk⟩
theorem MS.app (S : MS w W P v T) (hr : kH.R 45 W' w.heap.size (fun _ => True) v' T') (hb : Below w.heap.size w W') (hg : W.grownBy W' v.ownBlock) (hat : v'.ownBlock = v.ownBlock ∨ ∃ b, v'.ownBlock = some b ∧ W.heap.size ≤ b) : MS w W' P v' T' := by
  have hlt := S.tab.lt
  refine ⟨(hg.block _ hlt (fun e => S.d _ e.symm rfl)).trans S.tab, S.ok, hr, fun k hk => ?_, hb⟩
  rcases hat with h | ⟨b, h, hle⟩
  · exact S.d k (h ▸ hk)
  · rw [h] at hk; injection hk with hk; omega
/-- A row that is new, beside a table that lies as it lay. -/
theorem MS.fresh (S : MS w W P v T) (hr : kH.R 45 W' w.heap.size (fun _ => True) v' T') (hb : Below W.heap.size W W') (hn : ∀ k, v'.ownBlock = some k → W.heap.size ≤ k) : MS w W' P v' T' := by
  have hlt := S.tab.lt
  exact ⟨S.tab.below hb, S.ok, hr, fun k hk => by have := hn k hk; omega, vbelow_step S.low hb⟩
end
theorem H_at {W : World} {base : Nat} {A : Option Addr} {n c : Nat} {xs : List (Int × Int × Int)} (h : kH.R 45 W base (fun _ => True) (.slice A n c) xs) (j : Nat) (hj : j < xs.length) : ∃ ad e, A = some ad ∧ xs[j]? = some e ∧ W.cell? (ad.add (j * 3)) = some (.int .u32 e.1) ∧
    W.cell? ⟨(ad.add (j * 3)).block, (ad.add (j * 3)).off + 1, none⟩ = some (.int .i64 e.2.1) ∧ W.cell? ⟨(ad.add (j * 3)).block, (ad.add (j * 3)).off + 2, none⟩ = some (.int .u8 e.2.2) := by
  obtain ⟨rfl, _, hC⟩ := Kd.R_reads' h
  obtain ⟨ad, cs, e, _, hK, hc0⟩ := Kd.C_get hC ((0, 0, 0) : Int × Int × Int) (j : Int) (by omega) (by omega)
  have hc : ∀ i u, cs[i]? = some u → W.cell? (ad.add (j * 3 + i)) = some u := hc0
  have hx : xs.getD (j : Int).toNat (0, 0, 0) = xs[j] := by
    rw [Int.toNat_natCast, List.getD_eq_getElem?_getD, List.getElem?_eq_getElem hj]; rfl
  rw [hx] at hK
  obtain rfl := kH_open hK
  exact ⟨ad, xs[j], e, List.getElem?_eq_getElem hj, hc 0 _ rfl, by rw [← add_field _ _ 1 (by omega)]; exact hc 1 _ rfl, by rw [← add_field _ _ 2 (by omega)]; exact hc 2 _ rfl⟩
theorem grown_below {W W' : World} (hg : W.grownBy W' none) : Below W.heap.size W W' := ⟨hg.os, hg.tape, hg.output, hg.size, fun k hk => hg.block k hk (by simp)⟩
theorem grown_cell {W W' : World} {row : Option Nat} (hg : W.grownBy W' row) {a : Addr} {v : Value} (hc : W.cell? a = some v) (hne : some a.block ≠ row) : W'.cell? a = some v := (World.cell?_of_block (hg.block _ (World.block_lt_of_cell? W a hc) hne)).trans hc
theorem MS.grown {w W W' : World} {P : Nat → Pl} {v : Value} {T : List (Int × Int × Int)} {row : Option Nat} (S : MS w W P v T) (hg : W.grownBy W' row) (h1 : some w.heap.size ≠ row) (h2 : ∀ k, v.ownBlock = some k → some k ≠ row) (hb : Below w.heap.size w W') : MS w W' P v T :=
  ⟨(hg.block _ S.tab.lt h1).trans S.tab, S.ok, Kd.R_mono (Kd.R_grown (Kd.R_tight rfl S.r) hg (fun k ho => h2 k ho.symm)) (fun _ _ => trivial), S.d, hb⟩
theorem MS.row {w W W' : World} {P : Nat → Pl} {v u v' : Value} {T Tu T' : List (Int × Int × Int)} (S : MS w W P v T) (hu : kH.R 45 W w.heap.size (fun _ => True) u Tu) (hg : W.grownBy W' u.ownBlock) (hr : kH.R 45 W' w.heap.size (fun _ => True) v' T') (hb : Below w.heap.size w W') : MS w W' P v' T' := by
  have hT : TabAt W' w.heap.size P (32 : Nat) true := (hg.block _ S.tab.lt (Kd.R_ne hu (show W.heap[w.heap.size]? = _ from S.tab) (by decide))).trans S.tab
  exact ⟨hT, S.ok, hr, fun k hk e => Kd.R_ne hr (show W'.heap[w.heap.size]? = _ from hT) (by decide) (by rw [← e]; exact hk.symm), hb⟩
theorem H_take {W : World} {base : Nat} {A : Option Addr} {c : Nat} {xs : List (Int × Int × Int)} (h : kH.R 45 W base (fun _ => True) (.slice A xs.length c) xs) (q : Nat) (hq : q ≤ xs.length) : ReadsRow (kH.K W) kH.sz W A q (xs.take q) := by
  have h_ := Kd.C_take (Kd.R_reads' h).2.2 hq
  rw [show (xs.take q).length = q by rw [List.length_take]; omega] at h_
  exact h_
theorem H_drop {W : World} {base : Nat} {A : Option Addr} {c : Nat} {xs : List (Int × Int × Int)} (h : kH.R 45 W base (fun _ => True) (.slice A xs.length c) xs) (q : Nat) (hq : q ≤ xs.length) : ReadsRow (kH.K W) kH.sz W (if c = q then A else A.map (·.add (q * 3))) (xs.length - q) (xs.drop q) := by
  have h_ := Kd.C_drop (c := c) (Kd.R_reads' h).2.2 hq (Kd.R_reads' h).2.1
  rw [List.length_drop] at h_
  exact h_
end Go.Proofs.Ytcpaakhmcpeagaa.Q
