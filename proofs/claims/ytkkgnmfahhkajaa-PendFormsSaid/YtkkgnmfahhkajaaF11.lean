/- Layer 18, the rows: arguments as they come in. -/
import Derived.Test.YtkkgnmfahhkajaaQx0
import Derived.ChangeArms
import Derived.DataElems
namespace Go.Proofs.Ytkkgnmfahhkajaa.Q
open Go.RowKit Go.Proofs.YtkkgnmfahhkajaaW.PrintWords Go.Proofs.YtkkgnmfahhkajaaW.PrintMore
set_option linter.unusedVariables false
set_option linter.unusedSimpArgs false
theorem mapM_get {α β : Type} {f : α → Option β} : ∀ (l : List α) (r : List β), l.mapM f = some r → r.length = l.length ∧ ∀ (i : Nat) (a : α) (b : β), l[i]? = some a → r[i]? = some b → f a = some b
  | [], r, h => by
    simp at h
    subst h
    exact ⟨rfl, fun i a b h1 => by simp at h1⟩
  | a :: l, r, h => by
    rw [List.mapM_cons] at h
    simp only [Option.bind_eq_bind, Option.bind_eq_some_iff] at h
    obtain ⟨b, hb, rs, hrs, e⟩ := h
    have e' : b :: rs = r := by simpa using e
    subst e'
    obtain ⟨h1, h2⟩ := mapM_get l rs hrs
    refine ⟨by simp [h1], fun i a' b' ha' hb' => ?_⟩
    cases i with
    | zero => simp at ha' hb'; subst ha' hb'; exact hb
    | succ i => exact h2 i a' b' (by simpa using ha') (by simpa using hb')
theorem cells_at {w : World} {base : Nat} {a : Addr} {n : Nat} {c : List Value} (h : w.cells? base a n = some c) : c.length = n ∧ ∀ i u, c[i]? = some u → w.cell? (a.add i) = some u := by
  unfold World.cells? at h
  split at h
  · obtain ⟨h1, h2⟩ := mapM_get _ _ h
    rw [List.length_range] at h1
    refine ⟨h1, fun i u hu => h2 i i u ?_ hu⟩
    have hi : i < n := by have := (List.getElem?_eq_some_iff.1 hu).1; omega
    rw [List.getElem?_range hi]
  · cases h
theorem pick {α : Type} (p : Nat → α → Prop) : ∀ n, (∀ i, i < n → ∃ a, p i a) → ∃ xs : List α, xs.length = n ∧ ∀ i a, xs[i]? = some a → p i a
  | 0, _ => ⟨[], rfl, fun i a h => by simp at h⟩
  | n + 1, h => by
    obtain ⟨xs, h1, h2⟩ := pick p n (fun i hi => h i (by omega))
    obtain ⟨a, ha⟩ := h n (by omega)
    refine ⟨xs ++ [a], by simp [h1], fun i b hb => ?_⟩
    by_cases hi : i < xs.length
    · rw [List.getElem?_append_left hi] at hb
      exact h2 i b hb
    · rw [List.getElem?_append_right (by omega)] at hb
      have hi0 : i - xs.length = 0 := by
        by_cases h0 : i - xs.length = 0
        · exact h0
        · rw [List.getElem?_eq_none (by simp; omega)] at hb; cases hb
      rw [hi0] at hb
      simp at hb
      subst hb
      have : i = n := by omega
      subst this
      exact ha
section
variable {H : Type} (enc : TypeId × Value → H) (W : World)
/-- What is read of a type is of a kind. -/
def Opens {α : Type} (t : TypeId) (d : Kd α) : Prop := ∀ (fuel : Nat) (cs : List Value) (x : DataW H × List MemPlace), DataW.trod enc Try.prog W 0 (fun _ => true) true fuel t cs = some x → ∃ a, d.K W a cs
theorem opens_slice {α : Type} {t e : TypeId} {d : Kd α} (ht : Try.prog.underlying t = some (.slice e)) (hsz : Try.prog.cellsOf e = d.sz) (hd : Opens enc W e d) : Opens enc W t (Kd.slice e d) := fun fuel cs x h => by
  rcases DataW.trod_slice ht h with ⟨rfl, _⟩ | ⟨a, len, cap, elems, rest, n, _, rfl, _, _, hl, hm, hlen, hel, _⟩
  · exact ⟨[], none, 0, rfl, Nat.le_refl _, rfl, by simp, fun h => absurd h (by simp)⟩
  · obtain ⟨xs, h1, h2⟩ := pick (fun i a' => ∃ c, W.cells? 0 (a.add (i * d.sz)) d.sz = some c ∧ d.K W a' c) len (fun i hi => by
      have h3 := hel i hi
      rw [List.getElem?_eq_getElem (show i < elems.length by omega), hsz, Option.bind_eq_some_iff] at h3
      obtain ⟨c, hc, hx⟩ := h3
      obtain ⟨a', ha'⟩ := hd n c _ hx
      exact ⟨a', c, hc, ha'⟩)
    have hmax : maxLen ≤ 9223372036854775807 := by decide
    refine ⟨xs, some a, cap, by rw [h1], by omega, rfl, by omega, fun _ => ⟨a, rfl, fun j p hj => ?_⟩⟩
    obtain ⟨c, hc, hK⟩ := h2 j p hj
    obtain ⟨hcl, hcell⟩ := cells_at hc
    refine ⟨c, hcl, hK, fun i u hu => ?_⟩
    have := hcell i u hu
    rwa [Addr.add_add] at this
theorem opens29 : Opens enc W 29 k29 := fun fuel cs x h => by
  obtain ⟨xs, n, _, _, hl, hxs, hf⟩ := DataW.trod_struct Try.underlying29 h
  rw [show Try.prog.cellsOf 29 = 5 by kernel_rfl] at hl
  obtain ⟨c0, c1, c2, c3, c4, rfl⟩ : ∃ c0 c1 c2 c3 c4, cs = [c0, c1, c2, c3, c4] := by
    match cs, hl with
    | [c0, c1, c2, c3, c4], _ => exact ⟨c0, c1, c2, c3, c4, rfl⟩
  obtain ⟨y0, y1, y2, y3, y4, rfl⟩ : ∃ y0 y1 y2 y3 y4, xs = [y0, y1, y2, y3, y4] := by
    match xs, hxs with
    | [y0, y1, y2, y3, y4], _ => exact ⟨y0, y1, y2, y3, y4, rfl⟩
  have z0 : Try.prog.cellsOf 25 = 1 := by kernel_rfl
  have g0 : DataW.trod enc Try.prog W 0 (fun _ => true) true n 25 [c0] = some y0 := by
    have h_ := hf 0 { name := "Kind", type := 25, offset := 0, embedded := false, tag := "", pkgPath := "", byteOffset := 0 } rfl
    simp only [z0] at h_
    exact h_
  have z1 : Try.prog.cellsOf 5 = 1 := by kernel_rfl
  have g1 : DataW.trod enc Try.prog W 0 (fun _ => true) true n 5 [c1] = some y1 := by
    have h_ := hf 1 { name := "A", type := 5, offset := 1, embedded := false, tag := "", pkgPath := "", byteOffset := 1 } rfl
    simp only [z1] at h_
    exact h_
  have z2 : Try.prog.cellsOf 5 = 1 := by kernel_rfl
  have g2 : DataW.trod enc Try.prog W 0 (fun _ => true) true n 5 [c2] = some y2 := by
    have h_ := hf 2 { name := "Rights", type := 5, offset := 2, embedded := false, tag := "", pkgPath := "", byteOffset := 2 } rfl
    simp only [z2] at h_
    exact h_
  have z3 : Try.prog.cellsOf 26 = 1 := by kernel_rfl
  have g3 : DataW.trod enc Try.prog W 0 (fun _ => true) true n 26 [c3] = some y3 := by
    have h_ := hf 3 { name := "Handle", type := 26, offset := 3, embedded := false, tag := "", pkgPath := "", byteOffset := 4 } rfl
    simp only [z3] at h_
    exact h_
  have z4 : Try.prog.cellsOf 27 = 1 := by kernel_rfl
  have g4 : DataW.trod enc Try.prog W 0 (fun _ => true) true n 27 [c4] = some y4 := by
    have h_ := hf 4 { name := "Payload", type := 27, offset := 4, embedded := false, tag := "", pkgPath := "", byteOffset := 8 } rfl
    simp only [z4] at h_
    exact h_
  obtain ⟨n0, e0, _, _⟩ := DataW.trod_int Try.underlying25 g0
  obtain rfl : c0 = _ := by simpa using e0
  obtain ⟨n1, e1, _, _⟩ := DataW.trod_int Try.underlying5 g1
  obtain rfl : c1 = _ := by simpa using e1
  obtain ⟨n2, e2, _, _⟩ := DataW.trod_int Try.underlying5 g2
  obtain rfl : c2 = _ := by simpa using e2
  obtain ⟨n3, e3, _, _⟩ := DataW.trod_int Try.underlying26 g3
  obtain rfl : c3 = _ := by simpa using e3
  obtain ⟨n4, e4, _, _⟩ := DataW.trod_int Try.underlying27 g4
  obtain rfl : c4 = _ := by simpa using e4
  exact ⟨⟨n0, n1, n2, n3, n4⟩, k29_mk W ⟨n0, n1, n2, n3, n4⟩⟩
theorem opens40 : Opens enc W 40 k40 := fun fuel cs x h => by
  obtain ⟨xs, n, _, _, hl, hxs, hf⟩ := DataW.trod_struct Try.underlying40 h
  rw [show Try.prog.cellsOf 40 = 2 by kernel_rfl] at hl
  obtain ⟨c0, c1, rfl⟩ : ∃ c0 c1, cs = [c0, c1] := by
    match cs, hl with
    | [c0, c1], _ => exact ⟨c0, c1, rfl⟩
  obtain ⟨y0, y1, rfl⟩ : ∃ y0 y1, xs = [y0, y1] := by
    match xs, hxs with
    | [y0, y1], _ => exact ⟨y0, y1, rfl⟩
  have z0 : Try.prog.cellsOf 27 = 1 := by kernel_rfl
  have g0 : DataW.trod enc Try.prog W 0 (fun _ => true) true n 27 [c0] = some y0 := by
    have h_ := hf 0 { name := "Seq", type := 27, offset := 0, embedded := false, tag := "", pkgPath := "", byteOffset := 0 } rfl
    simp only [z0] at h_
    exact h_
  have z1 : Try.prog.cellsOf 27 = 1 := by kernel_rfl
  have g1 : DataW.trod enc Try.prog W 0 (fun _ => true) true n 27 [c1] = some y1 := by
    have h_ := hf 1 { name := "Epoch", type := 27, offset := 1, embedded := false, tag := "", pkgPath := "", byteOffset := 8 } rfl
    simp only [z1] at h_
    exact h_
  obtain ⟨n0, e0, _, _⟩ := DataW.trod_int Try.underlying27 g0
  obtain rfl : c0 = _ := by simpa using e0
  obtain ⟨n1, e1, _, _⟩ := DataW.trod_int Try.underlying27 g1
  obtain rfl : c1 = _ := by simpa using e1
  exact ⟨⟨n0, n1⟩, k40_mk W ⟨n0, n1⟩⟩
theorem opens42 : Opens enc W 42 k42 := fun fuel cs x h => by
  obtain ⟨xs, n, _, _, hl, hxs, hf⟩ := DataW.trod_struct Try.underlying42 h
  rw [show Try.prog.cellsOf 42 = 12 by kernel_rfl] at hl
  obtain ⟨c0, c1, c2, c3, c4, c5, c6, c7, c8, c9, c10, c11, rfl⟩ : ∃ c0 c1 c2 c3 c4 c5 c6 c7 c8 c9 c10 c11, cs = [c0, c1, c2, c3, c4, c5, c6, c7, c8, c9, c10, c11] := by
    match cs, hl with
    | [c0, c1, c2, c3, c4, c5, c6, c7, c8, c9, c10, c11], _ => exact ⟨c0, c1, c2, c3, c4, c5, c6, c7, c8, c9, c10, c11, rfl⟩
  obtain ⟨y0, y1, y2, y3, y4, y5, y6, rfl⟩ : ∃ y0 y1 y2 y3 y4 y5 y6, xs = [y0, y1, y2, y3, y4, y5, y6] := by
    match xs, hxs with
    | [y0, y1, y2, y3, y4, y5, y6], _ => exact ⟨y0, y1, y2, y3, y4, y5, y6, rfl⟩
  have z0 : Try.prog.cellsOf 3 = 1 := by kernel_rfl
  have g0 : DataW.trod enc Try.prog W 0 (fun _ => true) true n 3 [c0] = some y0 := by
    have h_ := hf 0 { name := "Number", type := 3, offset := 0, embedded := false, tag := "", pkgPath := "", byteOffset := 0 } rfl
    simp only [z0] at h_
    exact h_
  have z1 : Try.prog.cellsOf 29 = 5 := by kernel_rfl
  have g1 : DataW.trod enc Try.prog W 0 (fun _ => true) true n 29 [c1, c2, c3, c4, c5] = some y1 := by
    have h_ := hf 1 { name := "Req", type := 29, offset := 1, embedded := false, tag := "", pkgPath := "", byteOffset := 8 } rfl
    simp only [z1] at h_
    exact h_
  have z2 : Try.prog.cellsOf 38 = 1 := by kernel_rfl
  have g2 : DataW.trod enc Try.prog W 0 (fun _ => true) true n 38 [c6] = some y2 := by
    have h_ := hf 2 { name := "Next", type := 38, offset := 6, embedded := false, tag := "", pkgPath := "", byteOffset := 24 } rfl
    simp only [z2] at h_
    exact h_
  have z3 : Try.prog.cellsOf 3 = 1 := by kernel_rfl
  have g3 : DataW.trod enc Try.prog W 0 (fun _ => true) true n 3 [c7] = some y3 := by
    have h_ := hf 3 { name := "Channel", type := 3, offset := 7, embedded := false, tag := "", pkgPath := "", byteOffset := 32 } rfl
    simp only [z3] at h_
    exact h_
  have z4 : Try.prog.cellsOf 3 = 1 := by kernel_rfl
  have g4 : DataW.trod enc Try.prog W 0 (fun _ => true) true n 3 [c8] = some y4 := by
    have h_ := hf 4 { name := "Lane", type := 3, offset := 8, embedded := false, tag := "", pkgPath := "", byteOffset := 40 } rfl
    simp only [z4] at h_
    exact h_
  have z5 : Try.prog.cellsOf 40 = 2 := by kernel_rfl
  have g5 : DataW.trod enc Try.prog W 0 (fun _ => true) true n 40 [c9, c10] = some y5 := by
    have h_ := hf 5 { name := "Ticket", type := 40, offset := 9, embedded := false, tag := "", pkgPath := "", byteOffset := 48 } rfl
    simp only [z5] at h_
    exact h_
  have z6 : Try.prog.cellsOf 27 = 1 := by kernel_rfl
  have g6 : DataW.trod enc Try.prog W 0 (fun _ => true) true n 27 [c11] = some y6 := by
    have h_ := hf 6 { name := "Payload", type := 27, offset := 11, embedded := false, tag := "", pkgPath := "", byteOffset := 64 } rfl
    simp only [z6] at h_
    exact h_
  obtain ⟨n0, e0, _, _⟩ := DataW.trod_int Try.underlying3 g0
  obtain rfl : c0 = _ := by simpa using e0
  obtain ⟨n2, e2, _, _⟩ := DataW.trod_int Try.underlying38 g2
  obtain rfl : c6 = _ := by simpa using e2
  obtain ⟨n3, e3, _, _⟩ := DataW.trod_int Try.underlying3 g3
  obtain rfl : c7 = _ := by simpa using e3
  obtain ⟨n4, e4, _, _⟩ := DataW.trod_int Try.underlying3 g4
  obtain rfl : c8 = _ := by simpa using e4
  obtain ⟨n6, e6, _, _⟩ := DataW.trod_int Try.underlying27 g6
  obtain rfl : c11 = _ := by simpa using e6
  obtain ⟨r, hr⟩ := opens29 enc W _ _ _ g1
  obtain ⟨t, ht⟩ := opens40 enc W _ _ _ g5
  have hr2 := k29_open hr
  have ht2 := k40_open ht
  simp only [List.drop_succ_cons, List.drop_zero, List.take_succ_cons, List.take_zero, List.cons.injEq, and_true] at hr2 ht2
  obtain ⟨rfl, rfl, rfl, rfl, rfl⟩ := hr2
  obtain ⟨rfl, rfl⟩ := ht2
  exact ⟨⟨n0, r, n2, n3, n4, t, n6⟩, k42_mk W ⟨n0, r, n2, n3, n4, t, n6⟩⟩
theorem opens22 : Opens enc W 22 (Kd.slice 42 k42) := opens_slice enc W Try.underlying22 (by kernel_rfl) (opens42 enc W)
theorem opens24 : Opens enc W 24 k24 := fun fuel cs x h => by
  obtain ⟨xs, n, _, _, hl, hxs, hf⟩ := DataW.trod_struct Try.underlying24 h
  rw [show Try.prog.cellsOf 24 = 3 by kernel_rfl] at hl
  obtain ⟨c0, c1, c2, rfl⟩ : ∃ c0 c1 c2, cs = [c0, c1, c2] := by
    match cs, hl with
    | [c0, c1, c2], _ => exact ⟨c0, c1, c2, rfl⟩
  obtain ⟨y0, y1, y2, rfl⟩ : ∃ y0 y1 y2, xs = [y0, y1, y2] := by
    match xs, hxs with
    | [y0, y1, y2], _ => exact ⟨y0, y1, y2, rfl⟩
  have z0 : Try.prog.cellsOf 3 = 1 := by kernel_rfl
  have g0 : DataW.trod enc Try.prog W 0 (fun _ => true) true n 3 [c0] = some y0 := by
    have h_ := hf 0 { name := "Room", type := 3, offset := 0, embedded := false, tag := "", pkgPath := "", byteOffset := 0 } rfl
    simp only [z0] at h_
    exact h_
  have z1 : Try.prog.cellsOf 3 = 1 := by kernel_rfl
  have g1 : DataW.trod enc Try.prog W 0 (fun _ => true) true n 3 [c1] = some y1 := by
    have h_ := hf 1 { name := "Next", type := 3, offset := 1, embedded := false, tag := "", pkgPath := "", byteOffset := 8 } rfl
    simp only [z1] at h_
    exact h_
  have z2 : Try.prog.cellsOf 22 = 1 := by kernel_rfl
  have g2 : DataW.trod enc Try.prog W 0 (fun _ => true) true n 22 [c2] = some y2 := by
    have h_ := hf 2 { name := "Ops", type := 22, offset := 2, embedded := false, tag := "", pkgPath := "", byteOffset := 16 } rfl
    simp only [z2] at h_
    exact h_
  obtain ⟨n0, e0, _, _⟩ := DataW.trod_int Try.underlying3 g0
  obtain rfl : c0 = _ := by simpa using e0
  obtain ⟨n1, e1, _, _⟩ := DataW.trod_int Try.underlying3 g1
  obtain rfl : c1 = _ := by simpa using e1
  obtain ⟨l, A, c, e2, hc, hC⟩ := opens22 enc W _ _ _ g2
  obtain rfl : c2 = _ := by simpa using e2
  exact ⟨⟨n0, n1, l⟩, k24_mk W ⟨n0, n1, l⟩ hc hC⟩
end
section
variable {H : Type} {enc : TypeId × Value → H} {W : World} {v : Value} {d : DataW H} {p : List MemPlace} {r0 : Reach} {base : Nat}
theorem open24 (hv : Value.okWide Try.prog W r0 base 24 v) (h : DataW.Trod enc Try.prog W 0 (fun _ => true) true 24 v d p) : ∃ (a b : Int) (A : Option Addr) (c : Nat) (l : List S42), v = .agg #[.int .i64 a, .int .i64 b, .slice A l.length c] ∧ l.length ≤ c ∧ Kd.C k42 W A l.length l := by
  obtain ⟨cs, rfl, _⟩ := WideShapes.okWide_struct Try.underlying24 hv
  obtain ⟨m, hm⟩ := h
  obtain ⟨r, hr⟩ := opens24 enc W _ _ _ hm
  obtain ⟨A, c, e, hc, hC⟩ := k24_open hr
  exact ⟨r.f0, r.f1, A, c, r.f2, congrArg Value.agg (Array.toList_inj.1 e), hc, hC⟩
end
end Go.Proofs.Ytkkgnmfahhkajaa.Q
