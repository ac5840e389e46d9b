/- Layer 13: rows of function values, one appended behind the other. -/
import Derived.Test.YtfjljlhlifnnlaaE8
import Derived.Test.YtfjljlhlifnnlaaWWords
import Derived.Test.YtfjljlhlifnnlaaWMore
import Derived.Test.YtfjljlhlifnnlaaWInvWords
import Derived.Deep.AppendLies
namespace Go.Proofs.Ytfjljlhlifnnlaa.Q
open Go.RowKit Go.Proofs.YtfjljlhlifnnlaaW.PrintWords Go.Proofs.YtfjljlhlifnnlaaW.PrintMore
set_option linter.unusedVariables false
set_option linter.unusedSimpArgs false
/-- An act's function value, by the block of what it has caught; or none. -/
def encF : Option Nat → Value
  | some g => .func (.func 35) #[] #[.pointer (some ⟨g, 0, none⟩)]
  | none => .nilFunc
def kdF : Kd (Option Nat) := Kd.scalar encF (fun x => by cases x <;> rfl)
def okF (gs : List (Option Nat)) : Nat → Prop := fun k => some k ∉ gs
def Ops (W : World) (gs : List (Option Nat)) (kf qf : Nat → Int) : Prop :=
  ∀ j, j < gs.length → ∃ g, gs[j]? = some (some g) ∧ g < W.heap.size ∧ W.cell? ⟨g, 0, none⟩ = some (.int .i64 (kf j)) ∧ W.cell? ⟨g, 1, none⟩ = some (.int .i64 (qf j))
theorem infoF : (Try.prog.info? 29).map (fun i => (i.zero, i.size, i.bytes)) = some (some .nilFunc, 1, 8) := by kernel_rfl
theorem own_ok {wr : World} {base : Nat} {gs : List (Option Nat)} {v : Value} (hR : kdF.R 29 wr base (okF gs) v gs) (o : Obj) : kdF.R 29 (wr.alloc o) base (okF (gs ++ [some wr.heap.size])) v gs := by
  refine Kd.R_flat (fun h => h) (Kd.R_alloc hR o) fun k hk hok => ?_
  have hlt := Kd.R_lt hR k hk
  unfold okF at *
  simp only [List.mem_append, List.mem_singleton, Option.some.injEq, not_or]
  exact ⟨hok, by omega⟩
theorem ok_fresh {wr : World} {gs : List (Option Nat)} {kf qf : Nat → Int} (hO : Ops wr gs kf qf) (o : Obj) : ∀ k, (wr.alloc o).heap.size ≤ k → okF (gs ++ [some wr.heap.size]) k := by
  intro k hk hm
  simp only [World.size_alloc] at hk
  simp only [List.mem_append, List.mem_singleton, Option.some.injEq] at hm
  rcases hm with hm | hm
  · obtain ⟨j, hj, e⟩ := List.getElem_of_mem hm
    obtain ⟨g, hg, hgl, _⟩ := hO j hj
    rw [List.getElem?_eq_getElem hj, e] at hg
    obtain rfl : k = g := by simpa using hg
    omega
  · omega
theorem own_ok' {wr W9 : World} {base : Nat} {gs : List (Option Nat)} {v : Value} {o : Obj} (hR : kdF.R 29 wr base (okF gs) v gs) (h : W9 = wr.alloc o) : RowKit.Hid (kdF.R 29 W9 base (okF (gs ++ [some wr.heap.size])) v gs) := by
  subst h
  exact own_ok hR o
theorem ok_fresh' {wr W9 : World} {gs : List (Option Nat)} {kf qf : Nat → Int} {o : Obj} (hO : Ops wr gs kf qf) (h : W9 = wr.alloc o) : RowKit.Hid (∀ k, W9.heap.size ≤ k → okF (gs ++ [some wr.heap.size]) k) := by
  subst h
  exact ok_fresh hO o
theorem below_of' {W1 wr W9 : World} {o : Obj} (hB : Below W1.heap.size W1 wr) (h : W9 = wr.alloc o) : Below W1.heap.size W1 W9 := by
  subst h
  exact vbelow_alloc hB o
theorem ops_next {wr w1 : World} {base : Nat} {gs : List (Option Nat)} {v : Value} {kf qf : Nat → Int} {t : TypeId} (hO : Ops wr gs kf qf) (hR : kdF.R 29 wr base (okF gs) v gs)
    (hg : (wr.alloc (.cells #[.int .i64 (kf gs.length), .int .i64 (qf gs.length)] t)).grownBy w1 v.ownBlock) : Ops w1 (gs ++ [some wr.heap.size]) kf qf := by
  intro j hj
  have hs1 := hg.size
  simp only [World.size_alloc] at hs1
  by_cases h : j < gs.length
  · obtain ⟨g, e, hgl, c0, c1⟩ := hO j h
    have hne : some g ≠ v.ownBlock := fun h_ => by
      have hok := hR.1 g h_.symm
      exact hok (List.mem_of_getElem? e)
    refine ⟨g, by rw [List.getElem?_append_left h]; exact e, by omega, ?_, ?_⟩
    · exact (hg.cell_far ⟨g, 0, none⟩ (by simp only [World.size_alloc]; omega) hne).trans (vcell_alloc c0 _)
    · exact (hg.cell_far ⟨g, 1, none⟩ (by simp only [World.size_alloc]; omega) hne).trans (vcell_alloc c1 _)
  · obtain rfl : j = gs.length := by simp at hj; omega
    have hne : some wr.heap.size ≠ v.ownBlock := fun h_ => by
      have hlt := Kd.R_lt hR _ h_.symm
      omega
    refine ⟨wr.heap.size, by simp, by omega, ?_, ?_⟩
    · exact (hg.cell_far ⟨wr.heap.size, 0, none⟩ (by simp only [World.size_alloc]; omega) hne).trans (vcell_new rfl)
    · exact (hg.cell_far ⟨wr.heap.size, 1, none⟩ (by simp only [World.size_alloc]; omega) hne).trans (vcell_new rfl)
theorem own_nil {wr : World} {base : Nat} {gs : List (Option Nat)} {v : Value} (hR : kdF.R 29 wr base (okF gs) v gs) : RowKit.Hid (kdF.R 29 wr base (okF (gs ++ [none])) v gs) := by
  refine Kd.R_flat (fun h => h) hR fun k hk hok => ?_
  unfold okF at *
  simp only [List.mem_append, List.mem_singleton, not_or]
  exact ⟨hok, by simp⟩
theorem fresh_nil {wr : World} {gs : List (Option Nat)} {kf qf : Nat → Int} (hO : Ops wr gs kf qf) : RowKit.Hid (∀ k, wr.heap.size ≤ k → okF (gs ++ [none]) k) := by
  intro k hk hm
  simp only [List.mem_append, List.mem_singleton, reduceCtorEq, or_false] at hm
  obtain ⟨j, hj, e⟩ := List.getElem_of_mem hm
  obtain ⟨g, hg, hgl, _⟩ := hO j hj
  rw [List.getElem?_eq_getElem hj, e] at hg
  obtain rfl : k = g := by simpa using hg
  omega
theorem ops_nil {wr w1 : World} {base : Nat} {gs : List (Option Nat)} {v : Value} {kf qf : Nat → Int} (hO : Ops wr gs kf qf) (hR : kdF.R 29 wr base (okF gs) v gs) (hg : wr.grownBy w1 v.ownBlock) : Ops w1 gs kf qf := by
  intro j hj
  obtain ⟨g, e, hgl, c0, c1⟩ := hO j hj
  have hne : some g ≠ v.ownBlock := fun h_ => (hR.1 g h_.symm) (List.mem_of_getElem? e)
  have hs1 := hg.size
  exact ⟨g, e, by omega, (hg.cell_far ⟨g, 0, none⟩ hgl hne).trans c0, (hg.cell_far ⟨g, 1, none⟩ hgl hne).trans c1⟩
/-- The row's cells are the acts' function values (and, behind them, none). -/
theorem acts_at {W : World} {base : Nat} {ok : Nat → Prop} {gs L : List (Option Nat)} {v : Value} {kf qf : Nat → Int} (hO : Ops W gs kf qf) (hR : kdF.R 29 W base ok v L) (hL : ∀ i, i < gs.length → L[i]? = gs[i]?) :
    ∃ (A : Option Addr) (c : Nat), v = .slice A L.length c ∧ (0 < L.length → ∃ ad, A = some ad ∧ (∀ i, i < gs.length → FuncAt W ad i (kf i) (qf i)) ∧ ∀ i, L[i]? = some none → W.cell? (ad.add i) = some .nilFunc) := by
  obtain ⟨A, c, rfl⟩ := Kd.R_slice hR
  have hC := (Kd.R_reads' hR).2.2
  have hr := Kd.reads_of_C (enc := encF) (d := none) (h1 := fun x => by cases x <;> rfl) hC
  refine ⟨A, c, rfl, fun h0 => ?_⟩
  obtain ⟨ad, rfl, hc⟩ := hr.2.2 h0
  refine ⟨ad, rfl, fun i hi => ?_, fun i hi => ?_⟩
  · obtain ⟨g, e, hgl, c0, c1⟩ := hO i hi
    have e2 := (hL i hi).trans e
    have hil : i < L.length := (List.getElem?_eq_some_iff.1 e2).1
    refine ⟨g, ?_, hgl, c0, c1⟩
    have := hc i hil
    rw [this]
    simp [List.getD, e2, encF]
  · have hil : i < L.length := (List.getElem?_eq_some_iff.1 hi).1
    rw [hc i hil]
    simp [List.getD, hi, encF]

end Go.Proofs.Ytfjljlhlifnnlaa.Q
