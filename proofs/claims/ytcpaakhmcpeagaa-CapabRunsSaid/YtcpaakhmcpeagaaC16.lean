/- Layer 11, the rows: a script of acts, as it comes in. -/
import Derived.Test.YtcpaakhmcpeagaaC12
import Derived.ChangeArms
import Derived.DataElems
namespace Go.Proofs.Ytcpaakhmcpeagaa.Q
open Go.RowKit Go.Proofs.YtcpaakhmcpeagaaW.PrintWords Go.Proofs.YtcpaakhmcpeagaaW.PrintMore
set_option linter.unusedVariables false
set_option linter.unusedSimpArgs false
/-- An act, as it stands in a script. -/
structure Oq where
  kd : Int
  ch : Int
  r : Int
  h : Int
  k : Int
def ocells (o : Oq) : List Value := [.int .i64 o.kd, .int .i64 o.ch, .int .u8 o.r, .int .u32 o.h, .int .i64 o.k]
def Oq.fine (o : Oq) : Prop := 0 ≤ o.r ∧ o.r ≤ 255 ∧ 0 ≤ o.h ∧ o.h < 4294967296
/-- The acts that a script holds. -/
def OpsAt (W : World) (A : Option Addr) (ops : List Oq) : Prop := ∀ (j : Nat) (o : Oq), ops[j]? = some o → o.fine ∧ ∃ ad, A = some ad ∧ ∀ i u, (ocells o)[i]? = some u → W.cell? (ad.add (j * 5 + i)) = some u
theorem OpsAt.below {w W : World} {A : Option Addr} {ops : List Oq} (h : OpsAt w A ops) (hb : Below w.heap.size w W) : OpsAt W A ops := fun j o hj => by
  obtain ⟨hf, ad, e, hc⟩ := h j o hj
  exact ⟨hf, ad, e, fun i u hu => vcell hb (hc i u hu)⟩
theorem OpsAt.get {W : World} {A : Option Addr} {ops : List Oq} (h : OpsAt W A ops) (j : Nat) (hj : j < ops.length) : ∃ ad o, ops[j]? = some o ∧ o.fine ∧ A = some ad ∧ W.cell? (ad.add (j * 5)) = some (.int .i64 o.kd) ∧ W.cell? ⟨(ad.add (j * 5)).block, (ad.add (j * 5)).off + 1, none⟩ = some (.int .i64 o.ch) ∧
    W.cell? ⟨(ad.add (j * 5)).block, (ad.add (j * 5)).off + 2, none⟩ = some (.int .u8 o.r) ∧ W.cell? ⟨(ad.add (j * 5)).block, (ad.add (j * 5)).off + 3, none⟩ = some (.int .u32 o.h) ∧ W.cell? ⟨(ad.add (j * 5)).block, (ad.add (j * 5)).off + 4, none⟩ = some (.int .i64 o.k) := by
  obtain ⟨hf, ad, e, hc⟩ := h j _ (List.getElem?_eq_getElem hj)
  refine ⟨ad, _, List.getElem?_eq_getElem hj, hf, e, hc 0 _ rfl, ?_, ?_, ?_, ?_⟩
  · rw [← add_field _ _ 1 (by omega)]; exact hc 1 _ rfl
  · rw [← add_field _ _ 2 (by omega)]; exact hc 2 _ rfl
  · rw [← add_field _ _ 3 (by omega)]; exact hc 3 _ rfl
  · rw [← add_field _ _ 4 (by omega)]; exact hc 4 _ rfl
theorem mapM_get {α β : Type} {f : α → Option β} : ∀ (l : List α) (r : List β), l.mapM f = some r → r.length = l.length ∧ ∀ (i : Nat) (a : α) (b : β), l[i]? = some a → r[i]? = some b → f a = some b
  | [], r, h => by
    simp at h
    subst h
    exact ⟨rfl, fun i a b h1 => by simp at h1⟩
  | a :: l, r, h => by
    rw [List.mapM_cons] at h
    simp only [Option.bind_eq_bind, Option.bind_eq_some_iff] at h
    obtain ⟨b, hb, rs, hrs, e⟩ := h
    have e' : b :: rs = r := by simpa using e
    subst e'
    obtain ⟨h1, h2⟩ := mapM_get l rs hrs
    refine ⟨by simp [h1], fun i a' b' ha' hb' => ?_⟩
    cases i with
    | zero => simp at ha' hb'; subst ha' hb'; exact hb
    | succ i => exact h2 i a' b' (by simpa using ha') (by simpa using hb')
theorem cells_at {w : World} {base : Nat} {a : Addr} {n : Nat} {c : List Value} (h : w.cells? base a n = some c) : c.length = n ∧ ∀ i u, c[i]? = some u → w.cell? (a.add i) = some u := by
  unfold World.cells? at h
  split at h
  · obtain ⟨h1, h2⟩ := mapM_get _ _ h
    rw [List.length_range] at h1
    refine ⟨h1, fun i u hu => h2 i i u ?_ hu⟩
    have hi : i < n := by have := (List.getElem?_eq_some_iff.1 hu).1; omega
    rw [List.getElem?_range hi]
  · cases h
theorem pick {α : Type} (p : Nat → α → Prop) : ∀ n, (∀ i, i < n → ∃ a, p i a) → ∃ xs : List α, xs.length = n ∧ ∀ i a, xs[i]? = some a → p i a
  | 0, _ => ⟨[], rfl, fun i a h => by simp at h⟩
  | n + 1, h => by
    obtain ⟨xs, h1, h2⟩ := pick p n (fun i hi => h i (by omega))
    obtain ⟨a, ha⟩ := h n (by omega)
    refine ⟨xs ++ [a], by simp [h1], fun i b hb => ?_⟩
    by_cases hi : i < xs.length
    · rw [List.getElem?_append_left hi] at hb
      exact h2 i b hb
    · rw [List.getElem?_append_right (by omega)] at hb
      have hi0 : i - xs.length = 0 := by
        by_cases h0 : i - xs.length = 0
        · exact h0
        · rw [List.getElem?_eq_none (by simp; omega)] at hb; cases hb
      rw [hi0] at hb
      simp at hb
      subst hb
      have : i = n := by omega
      subst this
      exact ha
section
variable {H : Type} (enc : TypeId × Value → H) (W : World)
theorem op_of {fuel : Nat} {cs : List Value} {x : DataW H × List MemPlace} (h : DataW.trod enc Try.prog W 0 (fun _ => true) true fuel 33 cs = some x) : ∃ o : Oq, cs = ocells o ∧ o.fine := by
  obtain ⟨xs, n, _, _, hl, hxs, hf⟩ := DataW.trod_struct Try.underlying33 h
  rw [show Try.prog.cellsOf 33 = 5 by kernel_rfl] at hl
  obtain ⟨a, b, c, d, e, rfl⟩ : ∃ a b c d e, cs = [a, b, c, d, e] := by
    match cs, hl with
    | [a, b, c, d, e], _ => exact ⟨a, b, c, d, e, rfl⟩
  obtain ⟨y0, y1, y2, y3, rfl⟩ : ∃ y0 y1 y2 y3, xs = [y0, y1, y2, y3] := by
    match xs, hxs with
    | [y0, y1, y2, y3], _ => exact ⟨y0, y1, y2, y3, rfl⟩
  have g0 : DataW.trod enc Try.prog W 0 (fun _ => true) true n 3 [a] = some y0 := by
    have h_ : DataW.trod enc Try.prog W 0 (fun _ => true) true n 3 (List.take (Try.prog.cellsOf 3) (List.drop 0 [a, b, c, d, e])) = some y0 := hf 0 _ rfl
    rw [show Try.prog.cellsOf 3 = 1 by kernel_rfl] at h_
    exact h_
  have g1 : DataW.trod enc Try.prog W 0 (fun _ => true) true n 30 [b, c] = some y1 := by
    have h_ : DataW.trod enc Try.prog W 0 (fun _ => true) true n 30 (List.take (Try.prog.cellsOf 30) (List.drop 1 [a, b, c, d, e])) = some y1 := hf 1 _ rfl
    rw [show Try.prog.cellsOf 30 = 2 by kernel_rfl] at h_
    exact h_
  have g2 : DataW.trod enc Try.prog W 0 (fun _ => true) true n 31 [d] = some y2 := by
    have h_ : DataW.trod enc Try.prog W 0 (fun _ => true) true n 31 (List.take (Try.prog.cellsOf 31) (List.drop 3 [a, b, c, d, e])) = some y2 := hf 2 _ rfl
    rw [show Try.prog.cellsOf 31 = 1 by kernel_rfl] at h_
    exact h_
  have g3 : DataW.trod enc Try.prog W 0 (fun _ => true) true n 3 [e] = some y3 := by
    have h_ : DataW.trod enc Try.prog W 0 (fun _ => true) true n 3 (List.take (Try.prog.cellsOf 3) (List.drop 4 [a, b, c, d, e])) = some y3 := hf 3 _ rfl
    rw [show Try.prog.cellsOf 3 = 1 by kernel_rfl] at h_
    exact h_
  obtain ⟨n0, e0, _, _⟩ := DataW.trod_int Try.underlying3 g0
  obtain ⟨n2, e2, _, w2⟩ := DataW.trod_int Try.underlying31 g2
  obtain ⟨n3, e3, _, _⟩ := DataW.trod_int Try.underlying3 g3
  obtain ⟨zs, m, _, _, hl1, hzs, hf1⟩ := DataW.trod_struct Try.underlying30 g1
  obtain ⟨z0, z1, rfl⟩ : ∃ z0 z1, zs = [z0, z1] := by
    match zs, hzs with
    | [z0, z1], _ => exact ⟨z0, z1, rfl⟩
  have k0 : DataW.trod enc Try.prog W 0 (fun _ => true) true m 3 [b] = some z0 := by
    have h_ : DataW.trod enc Try.prog W 0 (fun _ => true) true m 3 (List.take (Try.prog.cellsOf 3) (List.drop 0 [b, c])) = some z0 := hf1 0 _ rfl
    rw [show Try.prog.cellsOf 3 = 1 by kernel_rfl] at h_
    exact h_
  have k1 : DataW.trod enc Try.prog W 0 (fun _ => true) true m 5 [c] = some z1 := by
    have h_ : DataW.trod enc Try.prog W 0 (fun _ => true) true m 5 (List.take (Try.prog.cellsOf 5) (List.drop 1 [b, c])) = some z1 := hf1 1 _ rfl
    rw [show Try.prog.cellsOf 5 = 1 by kernel_rfl] at h_
    exact h_
  obtain ⟨m0, q0, _, _⟩ := DataW.trod_int Try.underlying3 k0
  obtain ⟨m1, q1, _, v1⟩ := DataW.trod_int Try.underlying5 k1
  simp at e0 e2 e3 q0 q1
  subst e0 e2 e3 q0 q1
  refine ⟨⟨n0, m0, m1, n2, n3⟩, rfl, ?_⟩
  have h1 := bd_u8 v1
  have h2 := bd_u32 w2
  exact ⟨h1.1, by show m1 ≤ 255; omega, h2.1, h2.2⟩
end
theorem open_ops {H : Type} {enc : TypeId × Value → H} {W : World} {A : Option Addr} {len cap : Nat} {d : DataW H} {p : List MemPlace} (h : DataW.Trod enc Try.prog W 0 (fun _ => true) true 22 (.slice A len cap) d p) :
    len ≤ 9223372036854775807 ∧ len ≤ cap ∧ ∃ ops : List Oq, ops.length = len ∧ OpsAt W A ops := by
  obtain ⟨fuel, hf⟩ := h
  rcases DataW.trod_slice Try.underlying22 hf with ⟨hcs, _⟩ | ⟨a, l, c, elems, rest, n, _, hcs, _, _, hl, hm, hlen, hel, _⟩
  · simp [Value.cells] at hcs
    obtain ⟨rfl, rfl, rfl⟩ := hcs
    exact ⟨by omega, by omega, [], rfl, fun j o hj => by simp at hj⟩
  · simp [Value.cells] at hcs
    obtain ⟨rfl, rfl, rfl⟩ := hcs
    have hmax : maxLen ≤ 9223372036854775807 := by decide
    obtain ⟨xs, h1, h2⟩ := pick (fun i (o : Oq) => o.fine ∧ ∃ c, W.cells? 0 (a.add (i * 5)) 5 = some c ∧ c = ocells o) len (fun i hi => by
      have h3 := hel i hi
      rw [List.getElem?_eq_getElem (show i < elems.length by omega), show Try.prog.cellsOf 33 = 5 by kernel_rfl, Option.bind_eq_some_iff] at h3
      obtain ⟨c, hc, hx⟩ := h3
      obtain ⟨o, ho, hfo⟩ := op_of enc W hx
      exact ⟨o, hfo, c, hc, ho⟩)
    refine ⟨by omega, hl, xs, h1, fun j o hj => ?_⟩
    obtain ⟨hfo, c, hc, rfl⟩ := h2 j o hj
    obtain ⟨_, hcell⟩ := cells_at hc
    refine ⟨hfo, a, rfl, fun i u hu => ?_⟩
    have := hcell i u hu
    rwa [Addr.add_add] at this
end Go.Proofs.Ytcpaakhmcpeagaa.Q
