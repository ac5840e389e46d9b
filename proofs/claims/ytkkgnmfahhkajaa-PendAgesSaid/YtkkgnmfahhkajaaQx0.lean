-- Printed by a program of this session (wip/tools: the kit's printer, with functions proved by hand let in).
import Derived.Test.YtkkgnmfahhkajaaProg
import Derived.Below
import Derived.Deep.Draws
import Derived.Deep.AppendLies
import Derived.Maps.AppendAt
import Derived.OwnWalk
import Derived.Laws.BytesArg
import Derived.Laws.MakeOwn
import Derived.Laws.OwnMore
import Derived.Deep.OwnRows
import Derived.Tactics
import Derived.Lib.ConvBytes
import Derived.Laws.Slices
import Derived.WalkKit
import Derived.KernelRfl
import Derived.RowKit3
import Derived.Deep.LoopGhost
import Derived.Deep.QuietTactic
import Derived.BigQuiet
import Derived.WideLaws
import Derived.Deep.DeepCutAuto
import Derived.Deep.CutBlock
import Derived.Deep.RegionHeld3
import Derived.Laws.Rows
import Derived.Lib.AppendStr
import Derived.ArgAppend
import Derived.Laws.IdiomCopy
import Derived.OrdersHeld
import Derived.Laws.BitsLemmas
import Derived.RowKit
import Derived.Test.YtkkgnmfahhkajaaWWords
import Derived.Test.YtkkgnmfahhkajaaWLast
import Derived.Test.YtkkgnmfahhkajaaWTab
import Derived.Test.YtkkgnmfahhkajaaWQPut
import Derived.Test.YtkkgnmfahhkajaaWApart
import Derived.Test.YtkkgnmfahhkajaaWArr
import Derived.Test.YtkkgnmfahhkajaaWFoot
import Derived.Test.YtkkgnmfahhkajaaWKept
import Derived.Test.YtkkgnmfahhkajaaWShare
import Derived.Test.YtkkgnmfahhkajaaWN
import Derived.Test.YtkkgnmfahhkajaaWEqStruct
import Derived.Test.YtkkgnmfahhkajaaWRepsOne
import Derived.Test.YtkkgnmfahhkajaaWInv
import Derived.Test.YtkkgnmfahhkajaaWGuard
import Derived.Test.YtkkgnmfahhkajaaWMore
namespace Go.Proofs.Ytkkgnmfahhkajaa.Q
open Go.RowKit Go.Proofs.YtkkgnmfahhkajaaW.PrintWords Go.Proofs.YtkkgnmfahhkajaaW.PrintLast Go.Proofs.YtkkgnmfahhkajaaW.PrintMore
attribute [local go_sem] max2_int min2_int max_two min_two max_three min_three max_four min_four   -- for this text's walks alone
set_option linter.unusedVariables false
set_option linter.unusedSimpArgs false

def errW : Option Int → Value
  | none => .nilIface
  | some c => .iface 0 (.int .i64 c)
theorem errW_none : errW none = .nilIface := rfl
theorem errW_some (c : Int) : errW (some c) = .iface 0 (.int .i64 c) := rfl

theorem info42 : (Try.prog.info? 42).map (fun i => (i.zero, i.size, i.bytes)) = some (some (.agg #[(.int .i64 0), (.int .u8 0), (.int .u8 0), (.int .u8 0), (.int .u32 0), (.int .u64 0), (.int .i64 0), (.int .i64 0), (.int .i64 0), (.int .u64 0), (.int .u64 0), (.int .u64 0)]), 12, 72) := by kernel_rfl
-- the values' own types
/-! #### struct type 29 -/
structure S29 where
  f0 : Int
  f1 : Int
  f2 : Int
  f3 : Int
  f4 : Int
def z29 : S29 := ⟨(0 : Int), (0 : Int), (0 : Int), (0 : Int), (0 : Int)⟩
def k29 : Kd S29 := Kd.iso (Kd.pair (Kd.int .u8) (Kd.pair (Kd.int .u8) (Kd.pair (Kd.int .u8) (Kd.pair (Kd.int .u32) (Kd.int .u64))))) (fun x : S29 => (x.f0, x.f1, x.f2, x.f3, x.f4))
theorem k29_open {w : World} {x : S29} {cs : List Value} (h : k29.K w x cs) : cs = [.int .u8 x.f0, .int .u8 x.f1, .int .u8 x.f2, .int .u32 x.f3, .int .u64 x.f4] := by
  obtain ⟨_, _, rfl, rfl, ⟨_, _, rfl, rfl, ⟨_, _, rfl, rfl, ⟨_, _, rfl, rfl, rfl⟩⟩⟩⟩ := h
  exact rfl
theorem k29_openM {w : World} {base : Nat} {ok : Nat → Prop} {x : S29} {cs : List Value} (h : k29.M w base ok x cs) : cs = [.int .u8 x.f0, .int .u8 x.f1, .int .u8 x.f2, .int .u32 x.f3, .int .u64 x.f4] := by
  obtain ⟨_, _, rfl, rfl, ⟨_, _, rfl, rfl, ⟨_, _, rfl, rfl, ⟨_, _, rfl, rfl, rfl⟩⟩⟩⟩ := h
  exact rfl
theorem k29_mk (w : World) (x : S29)  : k29.K w x [.int .u8 x.f0, .int .u8 x.f1, .int .u8 x.f2, .int .u32 x.f3, .int .u64 x.f4] := ⟨[.int .u8 x.f0], [.int .u8 x.f1, .int .u8 x.f2, .int .u32 x.f3, .int .u64 x.f4], rfl, rfl, ⟨[.int .u8 x.f1], [.int .u8 x.f2, .int .u32 x.f3, .int .u64 x.f4], rfl, rfl, ⟨[.int .u8 x.f2], [.int .u32 x.f3, .int .u64 x.f4], rfl, rfl, ⟨[.int .u32 x.f3], [.int .u64 x.f4], rfl, rfl, rfl⟩⟩⟩⟩
theorem k29_mkM (w : World) (base : Nat) (ok : Nat → Prop) (x : S29)  : k29.M w base ok x [.int .u8 x.f0, .int .u8 x.f1, .int .u8 x.f2, .int .u32 x.f3, .int .u64 x.f4] := ⟨[.int .u8 x.f0], [.int .u8 x.f1, .int .u8 x.f2, .int .u32 x.f3, .int .u64 x.f4], rfl, rfl, ⟨[.int .u8 x.f1], [.int .u8 x.f2, .int .u32 x.f3, .int .u64 x.f4], rfl, rfl, ⟨[.int .u8 x.f2], [.int .u32 x.f3, .int .u64 x.f4], rfl, rfl, ⟨[.int .u32 x.f3], [.int .u64 x.f4], rfl, rfl, rfl⟩⟩⟩⟩
/-! #### struct type 40 -/
structure S40 where
  f0 : Int
  f1 : Int
def z40 : S40 := ⟨(0 : Int), (0 : Int)⟩
def k40 : Kd S40 := Kd.iso (Kd.pair (Kd.int .u64) (Kd.int .u64)) (fun x : S40 => (x.f0, x.f1))
theorem k40_open {w : World} {x : S40} {cs : List Value} (h : k40.K w x cs) : cs = [.int .u64 x.f0, .int .u64 x.f1] := by
  obtain ⟨_, _, rfl, rfl, rfl⟩ := h
  exact rfl
theorem k40_openM {w : World} {base : Nat} {ok : Nat → Prop} {x : S40} {cs : List Value} (h : k40.M w base ok x cs) : cs = [.int .u64 x.f0, .int .u64 x.f1] := by
  obtain ⟨_, _, rfl, rfl, rfl⟩ := h
  exact rfl
theorem k40_mkM (w : World) (base : Nat) (ok : Nat → Prop) (x : S40)  : k40.M w base ok x [.int .u64 x.f0, .int .u64 x.f1] := ⟨[.int .u64 x.f0], [.int .u64 x.f1], rfl, rfl, rfl⟩
/-! #### struct type 42 -/
structure S42 where
  f0 : Int
  f1 : S29
  f2 : Int
  f3 : Int
  f4 : Int
  f5 : S40
  f6 : Int
def z42 : S42 := ⟨(0 : Int), z29, (0 : Int), (0 : Int), (0 : Int), z40, (0 : Int)⟩
def k42 : Kd S42 := Kd.iso (Kd.pair (Kd.int .i64) (Kd.pair k29 (Kd.pair (Kd.int .i64) (Kd.pair (Kd.int .i64) (Kd.pair (Kd.int .i64) (Kd.pair k40 (Kd.int .u64))))))) (fun x : S42 => (x.f0, x.f1, x.f2, x.f3, x.f4, x.f5, x.f6))
theorem k42_open {w : World} {x : S42} {cs : List Value} (h : k42.K w x cs) : cs = [.int .i64 x.f0, .int .u8 x.f1.f0, .int .u8 x.f1.f1, .int .u8 x.f1.f2, .int .u32 x.f1.f3, .int .u64 x.f1.f4, .int .i64 x.f2, .int .i64 x.f3, .int .i64 x.f4, .int .u64 x.f5.f0, .int .u64 x.f5.f1, .int .u64 x.f6] := by
  obtain ⟨_, _, rfl, rfl, ⟨_, _, rfl, s1, ⟨_, _, rfl, rfl, ⟨_, _, rfl, rfl, ⟨_, _, rfl, rfl, ⟨_, _, rfl, s9, rfl⟩⟩⟩⟩⟩⟩ := h
  obtain rfl := k29_open s1
  obtain rfl := k40_open s9
  exact rfl
theorem k42_openM {w : World} {base : Nat} {ok : Nat → Prop} {x : S42} {cs : List Value} (h : k42.M w base ok x cs) : cs = [.int .i64 x.f0, .int .u8 x.f1.f0, .int .u8 x.f1.f1, .int .u8 x.f1.f2, .int .u32 x.f1.f3, .int .u64 x.f1.f4, .int .i64 x.f2, .int .i64 x.f3, .int .i64 x.f4, .int .u64 x.f5.f0, .int .u64 x.f5.f1, .int .u64 x.f6] := by
  obtain ⟨_, _, rfl, rfl, ⟨_, _, rfl, s1, ⟨_, _, rfl, rfl, ⟨_, _, rfl, rfl, ⟨_, _, rfl, rfl, ⟨_, _, rfl, s9, rfl⟩⟩⟩⟩⟩⟩ := h
  obtain rfl := k29_openM s1
  obtain rfl := k40_openM s9
  exact rfl
theorem k42_mkM (w : World) (base : Nat) (ok : Nat → Prop) (x : S42)  : k42.M w base ok x [.int .i64 x.f0, .int .u8 x.f1.f0, .int .u8 x.f1.f1, .int .u8 x.f1.f2, .int .u32 x.f1.f3, .int .u64 x.f1.f4, .int .i64 x.f2, .int .i64 x.f3, .int .i64 x.f4, .int .u64 x.f5.f0, .int .u64 x.f5.f1, .int .u64 x.f6] := ⟨[.int .i64 x.f0], [.int .u8 x.f1.f0, .int .u8 x.f1.f1, .int .u8 x.f1.f2, .int .u32 x.f1.f3, .int .u64 x.f1.f4, .int .i64 x.f2, .int .i64 x.f3, .int .i64 x.f4, .int .u64 x.f5.f0, .int .u64 x.f5.f1, .int .u64 x.f6], rfl, rfl, ⟨[.int .u8 x.f1.f0, .int .u8 x.f1.f1, .int .u8 x.f1.f2, .int .u32 x.f1.f3, .int .u64 x.f1.f4], [.int .i64 x.f2, .int .i64 x.f3, .int .i64 x.f4, .int .u64 x.f5.f0, .int .u64 x.f5.f1, .int .u64 x.f6], rfl, (k29_mkM w base ok x.f1 ), ⟨[.int .i64 x.f2], [.int .i64 x.f3, .int .i64 x.f4, .int .u64 x.f5.f0, .int .u64 x.f5.f1, .int .u64 x.f6], rfl, rfl, ⟨[.int .i64 x.f3], [.int .i64 x.f4, .int .u64 x.f5.f0, .int .u64 x.f5.f1, .int .u64 x.f6], rfl, rfl, ⟨[.int .i64 x.f4], [.int .u64 x.f5.f0, .int .u64 x.f5.f1, .int .u64 x.f6], rfl, rfl, ⟨[.int .u64 x.f5.f0, .int .u64 x.f5.f1], [.int .u64 x.f6], rfl, (k40_mkM w base ok x.f5 ), rfl⟩⟩⟩⟩⟩⟩
def rd_T42 (xs : List S42) (i : Int) : S42 := xs.getD i.toNat z42
theorem at_T42 {w : World} {A : Option Addr} {n : Nat} {xs : List S42} (h : Kd.C k42 w A n xs) (i : Int) (h0 : 0 ≤ i) (h1 : i < n) : ∃ ad , A = some ad ∧ w.cell? (ad.add (i.toNat * 12)) = some (.int .i64 (rd_T42 xs i).f0) ∧ w.cell? ⟨(ad.add (i.toNat * 12)).block, (ad.add (i.toNat * 12)).off + 1, none⟩ = some (.int .u8 (rd_T42 xs i).f1.f0) ∧ w.cell? ⟨(ad.add (i.toNat * 12)).block, (ad.add (i.toNat * 12)).off + 2, none⟩ = some (.int .u8 (rd_T42 xs i).f1.f1) ∧ w.cell? ⟨(ad.add (i.toNat * 12)).block, (ad.add (i.toNat * 12)).off + 3, none⟩ = some (.int .u8 (rd_T42 xs i).f1.f2) ∧ w.cell? ⟨(ad.add (i.toNat * 12)).block, (ad.add (i.toNat * 12)).off + 4, none⟩ = some (.int .u32 (rd_T42 xs i).f1.f3) ∧ w.cell? ⟨(ad.add (i.toNat * 12)).block, (ad.add (i.toNat * 12)).off + 5, none⟩ = some (.int .u64 (rd_T42 xs i).f1.f4) ∧ w.cell? ⟨(ad.add (i.toNat * 12)).block, (ad.add (i.toNat * 12)).off + 6, none⟩ = some (.int .i64 (rd_T42 xs i).f2) ∧ w.cell? ⟨(ad.add (i.toNat * 12)).block, (ad.add (i.toNat * 12)).off + 7, none⟩ = some (.int .i64 (rd_T42 xs i).f3) ∧ w.cell? ⟨(ad.add (i.toNat * 12)).block, (ad.add (i.toNat * 12)).off + 8, none⟩ = some (.int .i64 (rd_T42 xs i).f4) ∧ w.cell? ⟨(ad.add (i.toNat * 12)).block, (ad.add (i.toNat * 12)).off + 9, none⟩ = some (.int .u64 (rd_T42 xs i).f5.f0) ∧ w.cell? ⟨(ad.add (i.toNat * 12)).block, (ad.add (i.toNat * 12)).off + 10, none⟩ = some (.int .u64 (rd_T42 xs i).f5.f1) ∧ w.cell? ⟨(ad.add (i.toNat * 12)).block, (ad.add (i.toNat * 12)).off + 11, none⟩ = some (.int .u64 (rd_T42 xs i).f6) := by
  obtain ⟨ad, c, e, _, hK, hc0⟩ := Kd.C_get h z42 i h0 h1
  have hc : ∀ j u, c[j]? = some u → w.cell? (ad.add (i.toNat * 12 + j)) = some u := hc0
  obtain rfl := k42_open hK
  exact ⟨ad, e, hc 0 _ rfl, by rw [← add_field _ _ 1 (by omega)]; exact hc 1 _ rfl, by rw [← add_field _ _ 2 (by omega)]; exact hc 2 _ rfl, by rw [← add_field _ _ 3 (by omega)]; exact hc 3 _ rfl, by rw [← add_field _ _ 4 (by omega)]; exact hc 4 _ rfl, by rw [← add_field _ _ 5 (by omega)]; exact hc 5 _ rfl, by rw [← add_field _ _ 6 (by omega)]; exact hc 6 _ rfl, by rw [← add_field _ _ 7 (by omega)]; exact hc 7 _ rfl, by rw [← add_field _ _ 8 (by omega)]; exact hc 8 _ rfl, by rw [← add_field _ _ 9 (by omega)]; exact hc 9 _ rfl, by rw [← add_field _ _ 10 (by omega)]; exact hc 10 _ rfl, by rw [← add_field _ _ 11 (by omega)]; exact hc 11 _ rfl⟩

/-! #### struct type 24 -/
structure S24 where
  f0 : Int
  f1 : Int
  f2 : (List S42)
/-- The world has come from the old one by orders drawn and blocks laid alone. -/
class Stp (w0 w : World) : Prop where
  heap : ∀ (g : Nat) (o : Obj), w0.heap[g]? = some o → w.heap[g]? = some o
  below : ∀ (v : World), Below v.heap.size v w0 → Below v.heap.size v w
instance stp_refl (w : World) : Stp w w := ⟨fun _ _ h => h, fun _ h => h⟩
instance stp_drewN (w0 w : World) (n : Nat) [h : Stp w0 w] : Stp w0 (w.drewN n) := ⟨fun g o e => blk_drewN (h.heap g o e) n, fun v e => pw_below_drewN (h.below v e) n⟩
instance stp_drew (w0 w : World) [h : Stp w0 w] : Stp w0 w.drew := ⟨fun g o e => blk_drew (h.heap g o e), fun v e => below_drew1 (h.below v e)⟩
instance stp_alloc (w0 w : World) (o' : Obj) [h : Stp w0 w] : Stp w0 (w.alloc o') := ⟨fun g o e => blk_alloc (h.heap g o e) o', fun v e => below_alloc (h.below v e) o'⟩
theorem stp {w0 w : World} {g : Nat} {o : Obj} (h : Aside0 (w0.heap[g]? = some o)) [s : Stp w0 w] : w.heap[g]? = some o := s.heap g o h.out
theorem stb {v w0 w : World} (h : Aside0 (Below v.heap.size v w0)) [s : Stp w0 w] : Below v.heap.size v w := s.below v h.out
/-- The same, the old world being read off the new one. -/
class Stq (w0 : outParam World) (w : World) : Prop where
  heap : ∀ (g : Nat) (o : Obj), w0.heap[g]? = some o → w.heap[g]? = some o
instance (priority := low) stq_refl (w : World) : Stq w w := ⟨fun _ _ h => h⟩
instance stq_drewN (w0 w : World) (n : Nat) [h : Stq w0 w] : Stq w0 (w.drewN n) := ⟨fun g o e => blk_drewN (h.heap g o e) n⟩
instance stq_drew (w0 w : World) [h : Stq w0 w] : Stq w0 w.drew := ⟨fun g o e => blk_drew (h.heap g o e)⟩
instance stq_alloc (w0 w : World) (o' : Obj) [h : Stq w0 w] : Stq w0 (w.alloc o') := ⟨fun g o e => blk_alloc (h.heap g o e) o'⟩
theorem stq {w0 w : World} {g : Nat} {o : Obj} [s : Stq w0 w] (h : w0.heap[g]? = some o) : w.heap[g]? = some o := s.heap g o h
theorem pkB {w W w2 : World} {gb : Nat} (h : Below w.heap.size w W) (k : Below W.heap.size W w2) (hg : gb = W.heap.size) : Aside0 (Below w.heap.size w w2) ∧ Aside0 (w.heap.size ≤ gb) :=
  ⟨⟨below_step h k⟩, ⟨by rw [hg]; exact below_size h⟩⟩
theorem pkK {w w1 : World} {g gb : Nat} {o : Obj} (h : w.heap[g]? = some o) (hb : Below w.heap.size w w1) (hg : gb = w.heap.size) : Aside0 (w1.heap[g]? = some o) ∧ Aside0 (g ≠ gb) ∧ Aside0 (gb ≠ g) :=
  ⟨⟨blk_below h hb⟩, ⟨by rw [hg]; exact Nat.ne_of_lt (blk_lt h)⟩, ⟨by rw [hg]; exact Nat.ne_of_gt (blk_lt h)⟩⟩
end Go.Proofs.Ytkkgnmfahhkajaa.Q
