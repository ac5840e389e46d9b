/- Layer 13: a row's argument that is a slice of acts: what its cells hold. -/
import Derived.Test.YtfjljlhlifnnlaaV
import Derived.Deep.Slices
import Derived.Deep.Fields
import Derived.ChangeSame
import Derived.ProofKit
import Derived.Test.YtfjljlhlifnnlaaE6
namespace Go.Proofs.Ytfjljlhlifnnlaa.Q
open Go.RowKit
set_option linter.unusedVariables false
set_option linter.unusedSimpArgs false

open Go.ChangeShapes Go.WideShapes Go.Deep
section
variable {H : Type} {enc : TypeId × Value → H} {P : Program} {w : World} {base : Nat} {spare : Nat → Bool} {held : Bool}
theorem open_slice_fields {t e : TypeId} {fs : Array Field} {fuel : Nat} {cs : List Value} {x : DataW H × List MemPlace} (ht : P.underlying t = some (.slice e)) (he : P.underlying e = some (.struct fs))
    (hone : oneCellFields P fs = true) (hC : P.cellsOf e = fs.size) (h : DataW.trod enc P w base spare held fuel t cs = some x) :
    (cs = [.slice none 0 0] ∧ x = (.nil, [])) ∨
    ∃ (a : Addr) (len cap m : Nat) (D : Nat → DataW H) (Pl : Nat → List MemPlace), cs = [.slice (some a) len cap] ∧ base ≤ a.block ∧ len ≤ cap ∧ cap ≤ maxLen ∧ m = (if spare a.block then cap else len) ∧
      x = (.slice ((List.range len).map D) ((List.range (m - len)).map fun j => D (len + j)), MemPlace.row a (m * fs.size) ++ (List.range m).flatMap Pl) ∧
      ∀ i, i < m → ∃ (ys : List (DataW H × List MemPlace)) (n : Nat), D i = .agg (ys.map (·.1)) ∧ Pl i = ys.flatMap (·.2) ∧ ys.length = fs.size ∧
        ∀ (j : Nat) (f : Field), fs[j]? = some f → ∃ (v : Value) (y : DataW H × List MemPlace), w.cell? (a.add (i * fs.size + j)) = some v ∧ ys[j]? = some y ∧ DataW.trod enc P w base spare held n f.type [v] = some y := by
  rcases open_slice ht h with h0 | ⟨a, len, cap, m, n, D, Pl, hcs, hb, hl, hm, hmm, hx, hi⟩
  · exact .inl h0
  · refine .inr ⟨a, len, cap, m, D, Pl, hcs, hb, hl, hm, hmm, by rw [hC] at hx; exact hx, fun i him => ?_⟩
    obtain ⟨cs', hc, ht'⟩ := hi i him
    rw [hC] at hc
    obtain ⟨ys, n', hn', hy, hlen, hyl, hf⟩ := DataW.trod_struct he ht'
    obtain ⟨_, hcl, hat⟩ := World.cells?_some hc
    simp only [Prod.mk.injEq] at hy
    refine ⟨ys, n', hy.1, hy.2, hyl, fun j f hj => ?_⟩
    obtain ⟨ho, hk⟩ := hone_of hone j f hj
    have hjl : j < fs.size := (Array.getElem?_eq_some_iff.1 hj).1
    have hcell := hat j hjl
    have hv : cs'[j]? = some (cs'[j]'(by omega)) := List.getElem?_eq_getElem (by omega)
    have h1 := hf j f hj
    rw [ho, hk] at h1
    have hone' : (cs'.drop j).take 1 = [cs'[j]'(by omega)] := by
      rw [List.drop_eq_getElem_cons (by omega)]
      rfl
    rw [hone'] at h1
    have hys : ys[j]? = some (ys[j]'(by omega)) := List.getElem?_eq_getElem (by omega)
    refine ⟨_, _, ?_, hys, h1.trans hys⟩
    rw [← Go.Deep.add_add, hcell, hv]
end
/-- The whole number that a cell holds. -/
def rdInt (w : World) (a : Addr) : Int := match w.cell? a with | some (.int _ x) => x | _ => 0
theorem rdInt_of {w : World} {a : Addr} {k : IntKind} {x : Int} (h : w.cell? a = some (.int k x)) : rdInt w a = x := by simp [rdInt, h]


theorem open_ops {H : Type} {enc : TypeId × Value → H} {w : World} {base : Nat} {spare : Nat → Bool} {held : Bool} {a : Option Addr} {len cap : Nat} {d : DataW H} {p : List MemPlace} (h : DataW.Trod enc Try.prog w base spare held 38 (.slice a len cap) d p) :
    len ≤ 9223372036854775807 ∧ len ≤ cap ∧ ∃ kf qf : Nat → Int, SliceOps w a len kf qf := by
  obtain ⟨fuel, hf⟩ := h
  rcases open_slice_fields (fs := (match Try.prog.underlying 41 with | some (.struct fs) => fs | _ => #[])) Try.underlying38 (by kernel_rfl) (by kernel_rfl) (by kernel_rfl) hf with ⟨hcs, _⟩ | ⟨ad, l, c, m, D, Pl, hcs, _, hl, hm, hmm, _, hi⟩
  · simp [Value.cells] at hcs
    obtain ⟨rfl, rfl, rfl⟩ := hcs
    exact ⟨by omega, by omega, fun _ => 0, fun _ => 0, fun h => absurd h (by omega)⟩
  · simp [Value.cells] at hcs
    obtain ⟨rfl, rfl, rfl⟩ := hcs
    have hlm : len ≤ m := by rw [hmm]; split <;> omega
    unfold maxLen at hm
    refine ⟨by omega, hl, fun i => rdInt w (ad.add (i * 2)), fun i => rdInt w ⟨(ad.add (i * 2)).block, (ad.add (i * 2)).off + 1, none⟩, fun _ => ⟨ad, rfl, fun i hil => ?_⟩⟩
    obtain ⟨ys, n, _, _, _, hc⟩ := hi i (by omega)
    have h0 := hc 0 (match Try.prog.underlying 41 with | some (.struct fs) => fs[0]! | _ => default) (by kernel_rfl)
    have h1 := hc 1 (match Try.prog.underlying 41 with | some (.struct fs) => fs[1]! | _ => default) (by kernel_rfl)
    obtain ⟨v0, y0, c0, _, t0⟩ := h0
    obtain ⟨v1, y1, c1, _, t1⟩ := h1
    obtain ⟨x0, e0, _, _⟩ := DataW.trod_int (show Try.prog.underlying _ = some (.int .i64) from by kernel_rfl) t0
    obtain ⟨x1, e1, _, _⟩ := DataW.trod_int (show Try.prog.underlying _ = some (.int .i64) from by kernel_rfl) t1
    simp at e0 e1
    subst e0 e1
    have c0' : w.cell? (ad.add (i * 2)) = some (.int .i64 x0) := c0
    have c1' : w.cell? (ad.add (i * 2 + 1)) = some (.int .i64 x1) := c1
    rw [vadd_succ] at c1'
    refine ⟨?_, ?_⟩
    · dsimp only
      rw [rdInt_of c0']; exact c0'
    · dsimp only
      rw [rdInt_of c1']; exact c1'

end Go.Proofs.Ytfjljlhlifnnlaa.Q
