/- Layer 18, the rows: a script of calls, as it comes in. -/
import Derived.Test.YtkkgnmfahhkajaaF11
import Derived.ChangeArms
import Derived.DataElems
namespace Go.Proofs.Ytkkgnmfahhkajaa.Q
open Go.RowKit Go.Proofs.YtkkgnmfahhkajaaW.PrintWords Go.Proofs.YtkkgnmfahhkajaaW.PrintMore
set_option linter.unusedVariables false
set_option linter.unusedSimpArgs false
/-- A call, as it stands in a script. -/
structure Oq where
  kd : Int
  r : S29
  k : Int
  nx : Int
def ocells (o : Oq) : List Value := [.int .i64 o.kd, .int .u8 o.r.f0, .int .u8 o.r.f1, .int .u8 o.r.f2, .int .u32 o.r.f3, .int .u64 o.r.f4, .int .u8 o.k, .int .i64 o.nx]
def Oq.fine (o : Oq) : Prop := 0 ≤ o.k ∧ o.k < 256
/-- The calls that a script holds. -/
def OpsAt (W : World) (A : Option Addr) (ops : List Oq) : Prop := ∀ (j : Nat) (o : Oq), ops[j]? = some o → o.fine ∧ ∃ ad, A = some ad ∧ ∀ i u, (ocells o)[i]? = some u → W.cell? (ad.add (j * 8 + i)) = some u
theorem add_field' (a : Addr) (m j : Nat) (hj : 0 < j) : a.add (m + j) = ⟨(a.add m).block, (a.add m).off + j, none⟩ := by
  unfold Addr.add
  rw [if_neg (by omega)]
  by_cases hm : m = 0
  · rw [if_pos hm, hm, Nat.zero_add]
  · rw [if_neg hm, Nat.add_assoc]
theorem OpsAt.get {W : World} {A : Option Addr} {ops : List Oq} (h : OpsAt W A ops) (j : Nat) (hj : j < ops.length) : ∃ ad o, ops[j]? = some o ∧ o.fine ∧ A = some ad ∧ W.cell? (ad.add (j * 8)) = some (.int .i64 o.kd) ∧ W.cell? ⟨(ad.add (j * 8)).block, (ad.add (j * 8)).off + 1, none⟩ = some (.int .u8 o.r.f0) ∧ W.cell? ⟨(ad.add (j * 8)).block, (ad.add (j * 8)).off + 2, none⟩ = some (.int .u8 o.r.f1) ∧ W.cell? ⟨(ad.add (j * 8)).block, (ad.add (j * 8)).off + 3, none⟩ = some (.int .u8 o.r.f2) ∧ W.cell? ⟨(ad.add (j * 8)).block, (ad.add (j * 8)).off + 4, none⟩ = some (.int .u32 o.r.f3) ∧ W.cell? ⟨(ad.add (j * 8)).block, (ad.add (j * 8)).off + 5, none⟩ = some (.int .u64 o.r.f4) ∧ W.cell? ⟨(ad.add (j * 8)).block, (ad.add (j * 8)).off + 6, none⟩ = some (.int .u8 o.k) ∧ W.cell? ⟨(ad.add (j * 8)).block, (ad.add (j * 8)).off + 7, none⟩ = some (.int .i64 o.nx) := by
  obtain ⟨hf, ad, e, hc⟩ := h j _ (List.getElem?_eq_getElem hj)
  refine ⟨ad, _, List.getElem?_eq_getElem hj, hf, e, hc 0 _ rfl, ?_, ?_, ?_, ?_, ?_, ?_, ?_⟩
  · rw [← add_field' _ _ 1 (by omega)]; exact hc 1 _ rfl
  · rw [← add_field' _ _ 2 (by omega)]; exact hc 2 _ rfl
  · rw [← add_field' _ _ 3 (by omega)]; exact hc 3 _ rfl
  · rw [← add_field' _ _ 4 (by omega)]; exact hc 4 _ rfl
  · rw [← add_field' _ _ 5 (by omega)]; exact hc 5 _ rfl
  · rw [← add_field' _ _ 6 (by omega)]; exact hc 6 _ rfl
  · rw [← add_field' _ _ 7 (by omega)]; exact hc 7 _ rfl
theorem wf_u8 {x : Int} (h : (Lit.int .u8 x).wf = true) : 0 ≤ x ∧ x < 256 := by
  simp [Lit.wf, IntKind.min, IntKind.max, IntKind.signed, IntKind.bits] at h
  omega
section
variable {H : Type} (enc : TypeId × Value → H) (W : World)
theorem op_of : ∀ (fuel : Nat) (cs : List Value) (x : DataW H × List MemPlace), DataW.trod enc Try.prog W 0 (fun _ => true) true fuel 53 cs = some x → ∃ o : Oq, cs = ocells o ∧ o.fine := fun fuel cs x h => by
  obtain ⟨xs, n, _, _, hl, hxs, hf⟩ := DataW.trod_struct Try.underlying53 h
  rw [show Try.prog.cellsOf 53 = 8 by kernel_rfl] at hl
  obtain ⟨c0, c1, c2, c3, c4, c5, c6, c7, rfl⟩ : ∃ c0 c1 c2 c3 c4 c5 c6 c7, cs = [c0, c1, c2, c3, c4, c5, c6, c7] := by
    match cs, hl with
    | [c0, c1, c2, c3, c4, c5, c6, c7], _ => exact ⟨c0, c1, c2, c3, c4, c5, c6, c7, rfl⟩
  obtain ⟨y0, y1, y2, y3, rfl⟩ : ∃ y0 y1 y2 y3, xs = [y0, y1, y2, y3] := by
    match xs, hxs with
    | [y0, y1, y2, y3], _ => exact ⟨y0, y1, y2, y3, rfl⟩
  have z0 : Try.prog.cellsOf 3 = 1 := by kernel_rfl
  have g0 : DataW.trod enc Try.prog W 0 (fun _ => true) true n 3 [c0] = some y0 := by
    have h_ := hf 0 { name := "Kind", type := 3, offset := 0, embedded := false, tag := "", pkgPath := "", byteOffset := 0 } rfl
    simp only [z0] at h_
    exact h_
  have z1 : Try.prog.cellsOf 29 = 5 := by kernel_rfl
  have g1 : DataW.trod enc Try.prog W 0 (fun _ => true) true n 29 [c1, c2, c3, c4, c5] = some y1 := by
    have h_ := hf 1 { name := "Req", type := 29, offset := 1, embedded := false, tag := "", pkgPath := "", byteOffset := 8 } rfl
    simp only [z1] at h_
    exact h_
  have z2 : Try.prog.cellsOf 5 = 1 := by kernel_rfl
  have g2 : DataW.trod enc Try.prog W 0 (fun _ => true) true n 5 [c6] = some y2 := by
    have h_ := hf 2 { name := "K", type := 5, offset := 6, embedded := false, tag := "", pkgPath := "", byteOffset := 24 } rfl
    simp only [z2] at h_
    exact h_
  have z3 : Try.prog.cellsOf 38 = 1 := by kernel_rfl
  have g3 : DataW.trod enc Try.prog W 0 (fun _ => true) true n 38 [c7] = some y3 := by
    have h_ := hf 3 { name := "Next", type := 38, offset := 7, embedded := false, tag := "", pkgPath := "", byteOffset := 32 } rfl
    simp only [z3] at h_
    exact h_
  obtain ⟨n0, e0, _, _⟩ := DataW.trod_int Try.underlying3 g0
  obtain rfl : c0 = _ := by simpa using e0
  obtain ⟨n2, e2, _, w2⟩ := DataW.trod_int Try.underlying5 g2
  obtain rfl : c6 = _ := by simpa using e2
  obtain ⟨n3, e3, _, _⟩ := DataW.trod_int Try.underlying38 g3
  obtain rfl : c7 = _ := by simpa using e3
  obtain ⟨r, hr⟩ := opens29 enc W _ _ _ g1
  have hr2 := k29_open hr
  simp only [List.cons.injEq, and_true] at hr2
  obtain ⟨rfl, rfl, rfl, rfl, rfl⟩ := hr2
  exact ⟨⟨n0, r, n2, n3⟩, rfl, wf_u8 w2⟩
end
theorem open_ops {H : Type} {enc : TypeId × Value → H} {W : World} {A : Option Addr} {len cap : Nat} {d : DataW H} {p : List MemPlace} (h : DataW.Trod enc Try.prog W 0 (fun _ => true) true 49 (.slice A len cap) d p) :
    len ≤ 9223372036854775807 ∧ len ≤ cap ∧ ∃ ops : List Oq, ops.length = len ∧ OpsAt W A ops := by
  obtain ⟨fuel, hf⟩ := h
  rcases DataW.trod_slice Try.underlying49 hf with ⟨hcs, _⟩ | ⟨a, l, c, elems, rest, n, _, hcs, _, _, hl, hm, hlen, hel, _⟩
  · simp [Value.cells] at hcs
    obtain ⟨rfl, rfl, rfl⟩ := hcs
    exact ⟨by omega, by omega, [], rfl, fun j o hj => by simp at hj⟩
  · simp [Value.cells] at hcs
    obtain ⟨rfl, rfl, rfl⟩ := hcs
    have hmax : maxLen ≤ 9223372036854775807 := by decide
    obtain ⟨xs, h1, h2⟩ := pick (fun i (o : Oq) => o.fine ∧ ∃ c, W.cells? 0 (a.add (i * 8)) 8 = some c ∧ c = ocells o) len (fun i hi => by
      have h3 := hel i hi
      rw [List.getElem?_eq_getElem (show i < elems.length by omega), show Try.prog.cellsOf 53 = 8 by kernel_rfl, Option.bind_eq_some_iff] at h3
      obtain ⟨c, hc, hx⟩ := h3
      obtain ⟨o, ho, hfo⟩ := op_of enc W _ _ _ hx
      exact ⟨o, hfo, c, hc, ho⟩)
    refine ⟨by omega, hl, xs, h1, fun j o hj => ?_⟩
    obtain ⟨hfo, c, hc, rfl⟩ := h2 j o hj
    obtain ⟨_, hcell⟩ := cells_at hc
    refine ⟨hfo, a, rfl, fun i u hu => ?_⟩
    have := hcell i u hu
    rwa [Addr.add_add] at this
end Go.Proofs.Ytkkgnmfahhkajaa.Q
