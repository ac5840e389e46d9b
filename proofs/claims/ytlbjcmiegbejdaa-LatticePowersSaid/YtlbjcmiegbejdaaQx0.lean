-- Printed by a program of this session (wip/tools: the kit's printer, with functions proved by hand let in).
import Derived.Test.YtlbjcmiegbejdaaProg
import Derived.Below
import Derived.Deep.Draws
import Derived.Deep.AppendLies
import Derived.Maps.AppendAt
import Derived.OwnWalk
import Derived.Laws.BytesArg
import Derived.Laws.MakeOwn
import Derived.Laws.OwnMore
import Derived.Deep.OwnRows
import Derived.Tactics
import Derived.Lib.ConvBytes
import Derived.Laws.Slices
import Derived.WalkKit
import Derived.KernelRfl
import Derived.RowKit3
import Derived.Deep.LoopGhost
import Derived.Deep.QuietTactic
import Derived.BigQuiet
import Derived.WideLaws
import Derived.Deep.DeepCutAuto
import Derived.Deep.CutBlock
import Derived.Deep.RegionHeld3
import Derived.Laws.Rows
import Derived.Lib.AppendStr
import Derived.ArgAppend
import Derived.Laws.IdiomCopy
import Derived.OrdersHeld
import Derived.Laws.BitsLemmas
import Derived.RowKit
import Derived.Test.YtlbjcmiegbejdaaWWords
import Derived.Test.YtlbjcmiegbejdaaWLast
import Derived.Test.YtlbjcmiegbejdaaWTab
import Derived.Test.YtlbjcmiegbejdaaWQPut
import Derived.Test.YtlbjcmiegbejdaaWApart
import Derived.Test.YtlbjcmiegbejdaaWFoot
import Derived.Test.YtlbjcmiegbejdaaWKept
import Derived.Test.YtlbjcmiegbejdaaWShare
import Derived.Test.YtlbjcmiegbejdaaWN
import Derived.Test.YtlbjcmiegbejdaaWEqStruct
import Derived.Test.YtlbjcmiegbejdaaWRepsOne
import Derived.Test.YtlbjcmiegbejdaaWInv
import Derived.Test.YtlbjcmiegbejdaaWGuard
import Derived.Test.YtlbjcmiegbejdaaWMore
namespace Go.Proofs.Ytlbjcmiegbejdaa.Q
open Go.RowKit Go.Proofs.YtlbjcmiegbejdaaW.PrintWords Go.Proofs.YtlbjcmiegbejdaaW.PrintLast Go.Proofs.YtlbjcmiegbejdaaW.PrintMore
attribute [local go_sem] max2_int min2_int max_two min_two max_three min_three max_four min_four   -- for this text's walks alone
set_option linter.unusedVariables false
set_option linter.unusedSimpArgs false

def errW : Option Int → Value
  | none => .nilIface
  | some c => .iface 0 (.int .i64 c)
theorem errW_none : errW none = .nilIface := rfl
theorem errW_some (c : Int) : errW (some c) = .iface 0 (.int .i64 c) := rfl

theorem info3 : (Try.prog.info? 3).map (fun i => (i.zero, i.size, i.bytes)) = some (some (.int .i64 0), 1, 8) := by kernel_rfl
theorem info33 : (Try.prog.info? 33).map (fun i => (i.zero, i.size, i.bytes)) = some (some (.int .u64 0), 1, 8) := by kernel_rfl
-- the values' own types
/-! #### struct type 32 -/
structure S32 where
  f0 : Int
  f1 : Int
def z32 : S32 := ⟨(0 : Int), (0 : Int)⟩
def k32 : Kd S32 := Kd.iso (Kd.pair (Kd.int .i64) (Kd.int .i64)) (fun x : S32 => (x.f0, x.f1))
theorem k32_open {w : World} {x : S32} {cs : List Value} (h : k32.K w x cs) : cs = [.int .i64 x.f0, .int .i64 x.f1] := by
  obtain ⟨_, _, rfl, rfl, rfl⟩ := h
  exact rfl
theorem k32_mkM (w : World) (base : Nat) (ok : Nat → Prop) (x : S32)  : k32.M w base ok x [.int .i64 x.f0, .int .i64 x.f1] := ⟨[.int .i64 x.f0], [.int .i64 x.f1], rfl, rfl, rfl⟩
def rd_T32 (xs : List S32) (i : Int) : S32 := xs.getD i.toNat z32
theorem at_T32 {w : World} {A : Option Addr} {n : Nat} {xs : List S32} (h : Kd.C k32 w A n xs) (i : Int) (h0 : 0 ≤ i) (h1 : i < n) : ∃ ad , A = some ad ∧ w.cell? (ad.add (i.toNat * 2)) = some (.int .i64 (rd_T32 xs i).f0) ∧ w.cell? ⟨(ad.add (i.toNat * 2)).block, (ad.add (i.toNat * 2)).off + 1, none⟩ = some (.int .i64 (rd_T32 xs i).f1) := by
  obtain ⟨ad, c, e, _, hK, hc0⟩ := Kd.C_get h z32 i h0 h1
  have hc : ∀ j u, c[j]? = some u → w.cell? (ad.add (i.toNat * 2 + j)) = some u := hc0
  obtain rfl := k32_open hK
  exact ⟨ad, e, hc 0 _ rfl, by rw [← add_field _ _ 1 (by omega)]; exact hc 1 _ rfl⟩

/-- The world has come from the old one by orders drawn and blocks laid alone. -/
class Stp (w0 w : World) : Prop where
  heap : ∀ (g : Nat) (o : Obj), w0.heap[g]? = some o → w.heap[g]? = some o
  below : ∀ (v : World), Below v.heap.size v w0 → Below v.heap.size v w
instance stp_refl (w : World) : Stp w w := ⟨fun _ _ h => h, fun _ h => h⟩
instance stp_drewN (w0 w : World) (n : Nat) [h : Stp w0 w] : Stp w0 (w.drewN n) := ⟨fun g o e => blk_drewN (h.heap g o e) n, fun v e => pw_below_drewN (h.below v e) n⟩
instance stp_drew (w0 w : World) [h : Stp w0 w] : Stp w0 w.drew := ⟨fun g o e => blk_drew (h.heap g o e), fun v e => below_drew1 (h.below v e)⟩
instance stp_alloc (w0 w : World) (o' : Obj) [h : Stp w0 w] : Stp w0 (w.alloc o') := ⟨fun g o e => blk_alloc (h.heap g o e) o', fun v e => below_alloc (h.below v e) o'⟩
theorem stp {w0 w : World} {g : Nat} {o : Obj} (h : Aside0 (w0.heap[g]? = some o)) [s : Stp w0 w] : w.heap[g]? = some o := s.heap g o h.out
theorem stb {v w0 w : World} (h : Aside0 (Below v.heap.size v w0)) [s : Stp w0 w] : Below v.heap.size v w := s.below v h.out
/-- The same, the old world being read off the new one. -/
class Stq (w0 : outParam World) (w : World) : Prop where
  heap : ∀ (g : Nat) (o : Obj), w0.heap[g]? = some o → w.heap[g]? = some o
instance (priority := low) stq_refl (w : World) : Stq w w := ⟨fun _ _ h => h⟩
instance stq_drewN (w0 w : World) (n : Nat) [h : Stq w0 w] : Stq w0 (w.drewN n) := ⟨fun g o e => blk_drewN (h.heap g o e) n⟩
instance stq_drew (w0 w : World) [h : Stq w0 w] : Stq w0 w.drew := ⟨fun g o e => blk_drew (h.heap g o e)⟩
instance stq_alloc (w0 w : World) (o' : Obj) [h : Stq w0 w] : Stq w0 (w.alloc o') := ⟨fun g o e => blk_alloc (h.heap g o e) o'⟩
theorem stq {w0 w : World} {g : Nat} {o : Obj} [s : Stq w0 w] (h : w0.heap[g]? = some o) : w.heap[g]? = some o := s.heap g o h
theorem pkB {w W w2 : World} {gb : Nat} (h : Below w.heap.size w W) (k : Below W.heap.size W w2) (hg : gb = W.heap.size) : Aside0 (Below w.heap.size w w2) ∧ Aside0 (w.heap.size ≤ gb) :=
  ⟨⟨below_step h k⟩, ⟨by rw [hg]; exact below_size h⟩⟩
theorem pkK {w w1 : World} {g gb : Nat} {o : Obj} (h : w.heap[g]? = some o) (hb : Below w.heap.size w w1) (hg : gb = w.heap.size) : Aside0 (w1.heap[g]? = some o) ∧ Aside0 (g ≠ gb) ∧ Aside0 (gb ≠ g) :=
  ⟨⟨blk_below h hb⟩, ⟨by rw [hg]; exact Nat.ne_of_lt (blk_lt h)⟩, ⟨by rw [hg]; exact Nat.ne_of_gt (blk_lt h)⟩⟩
end Go.Proofs.Ytlbjcmiegbejdaa.Q
