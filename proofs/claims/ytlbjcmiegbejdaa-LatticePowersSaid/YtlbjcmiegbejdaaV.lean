/- Small words on worlds, cells and what lies below: used by this seat's walks. -/
import Derived.Test.YtlbjcmiegbejdaaProg
import Derived.WalkKit
import Derived.WalkSpells
import Derived.Deep.Draws
import Derived.Deep.QuietTactic
import Derived.BigQuiet
import Derived.Lib.Hide
import Derived.Outline
import Derived.Deep.DeepCutAuto
import Derived.Deep.RegionHeld3
namespace Go.Proofs.Ytlbjcmiegbejdaa.Q
open Go.RowKit
set_option linter.unusedVariables false

theorem vcell {W W' : World} {a : Addr} {v : Value} (hb : Below W.heap.size W W') (hc : W.cell? a = some v) : W'.cell? a = some v := (hb.cell (World.block_lt_of_cell? W a hc)).trans hc
theorem vcell_alloc {W : World} {a : Addr} {v : Value} (hc : W.cell? a = some v) (o : Obj) : (W.alloc o).cell? a = some v := (World.cell?_alloc_lt W o a (World.block_lt_of_cell? W a hc)).trans hc
theorem vbelow_step {w W w2 : World} (h : Below w.heap.size w W) (k : Below W.heap.size W w2) : Below w.heap.size w w2 :=
  h.trans ⟨k.os, k.tape, k.output, k.size, fun i hi => k.block i (Nat.lt_of_lt_of_le hi h.size)⟩
theorem vbelow_alloc {w W : World} (h : Below w.heap.size w W) (o : Obj) : Below w.heap.size w (W.alloc o) := h.alloc h.size o
theorem vbelow_drew {w W : World} (h : Below w.heap.size w W) : Below w.heap.size w W.drew := h.drew
/-- The worlds in which all that lay in B lies as it lay. -/
structure GW (B : World) where
  val : World
  property : Below B.heap.size B val
instance gwThere (B : World) : Nonempty (GW B) := ⟨⟨B, Below.refl _ _⟩⟩
end Go.Proofs.Ytlbjcmiegbejdaa.Q
