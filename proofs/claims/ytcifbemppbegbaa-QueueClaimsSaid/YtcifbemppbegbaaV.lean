/- Small words on worlds, cells and what lies below: used by this seat's walks. -/
import Derived.Test.YtcifbemppbegbaaProg
import Derived.WalkKit
import Derived.WalkSpells
import Derived.Deep.Draws
import Derived.Deep.QuietTactic
import Derived.BigQuiet
import Derived.Lib.Hide
import Derived.Outline
import Derived.Deep.DeepCutAuto
import Derived.Deep.RegionHeld3
namespace Go.Proofs.Ytcifbemppbegbaa.Q
open Go.RowKit
set_option linter.unusedVariables false

theorem vcell {W W' : World} {a : Addr} {v : Value} (hb : Below W.heap.size W W') (hc : W.cell? a = some v) : W'.cell? a = some v := (hb.cell (World.block_lt_of_cell? W a hc)).trans hc
theorem vcell_alloc {W : World} {a : Addr} {v : Value} (hc : W.cell? a = some v) (o : Obj) : (W.alloc o).cell? a = some v := (World.cell?_alloc_lt W o a (World.block_lt_of_cell? W a hc)).trans hc
theorem vbelow_next {w W w2 : World} (k : Below W.heap.size W w2) (h : Below w.heap.size w W) : Below w.heap.size w w2 :=
  h.trans ⟨k.os, k.tape, k.output, k.size, fun i hi => k.block i (Nat.lt_of_lt_of_le hi h.size)⟩
theorem vbelow_step {w W w2 : World} (h : Below w.heap.size w W) (k : Below W.heap.size W w2) : Below w.heap.size w w2 :=
  h.trans ⟨k.os, k.tape, k.output, k.size, fun i hi => k.block i (Nat.lt_of_lt_of_le hi h.size)⟩
theorem vbelow_alloc {w W : World} (h : Below w.heap.size w W) (o : Obj) : Below w.heap.size w (W.alloc o) := h.alloc h.size o
theorem vbelow_drew {w W : World} (h : Below w.heap.size w W) : Below w.heap.size w W.drew := h.drew
theorem vbelow_drewN {w W : World} (h : Below w.heap.size w W) (n : Nat) : Below w.heap.size w (W.drewN n) := ⟨h.os, h.tape, h.output, h.size, h.block⟩
theorem vbelow_set {w W : World} (h : Below w.heap.size w W) {p : Addr} {v : Value} (hg : w.heap.size ≤ p.block) : Below w.heap.size w (W.setCell p v) := h.setCell hg v

/-- The worlds in which all that lay in B lies as it lay. -/
structure GW (B : World) where
  val : World
  property : Below B.heap.size B val
instance gwThere (B : World) : Nonempty (GW B) := ⟨⟨B, Below.refl _ _⟩⟩
theorem wp_region_quietB {P : Program} {id : Nat} {Q : Exit → Act → World → Prop} {a : Act} {w : World} {l : List Oper} (hm : P.follows .mixedOrders = true) (hB : Region.lexB .any l.toArray = true)
    (h : wpQuiet P l.toArray (fun w' => ∃ u : GW w, w' = u.val) (fun a' => ∀ w', (∃ u : GW w, w' = u.val) → Q .normal a' w') l a) : (Code.region id l.toArray true).wp P Q a w :=
  wp_region_quiet (C := fun w' => ∃ u : GW w, w' = u.val) hm hB ⟨⟨w.drew, (Below.refl _ w).drew⟩, rfl⟩ (by simpa using h)
theorem quietB_of {P : Program} {f : FuncId} {args : Array Value} {B : World} {u : GW B} {v : Value}
    (h : Calls P f args u.val fun e w' => e = .returned v ∧ Below u.val.heap.size u.val w') : Calls P f args u.val fun e w'' => e = .returned v ∧ ∃ u' : GW B, w'' = u'.val :=
  h.mono fun _ W' ⟨he, hb⟩ => ⟨he, ⟨⟨W', vbelow_next hb u.property⟩, rfl⟩⟩
theorem gw_cell {B : World} {a : Addr} {v : Value} (h : B.cell? a = some v) (u : GW B) : u.val.cell? a = some v := vcell u.property h

end Go.Proofs.Ytcifbemppbegbaa.Q
