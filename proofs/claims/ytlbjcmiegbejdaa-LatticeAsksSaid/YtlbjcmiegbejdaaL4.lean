/- Layer 2: what flows lack, in the printed form. -/
import Derived.Test.YtlbjcmiegbejdaaL3
namespace Go.Proofs.Ytlbjcmiegbejdaa.Q
open Go.RowKit Go.Shelf Bm
attribute [local go_sem] Oper.semAt_some
set_option linter.unusedVariables false
set_option linter.unusedSimpArgs false
open Go.Proofs.YtlbjcmiegbejdaaW.PrintWords Go.Proofs.YtlbjcmiegbejdaaW.PrintMore Go.Proofs.YtlbjcmiegbejdaaW.PrintLast
set_option maxRecDepth 100000 in
set_option maxHeartbeats 4000000 in
theorem missing_no (A0 : Option Addr) (c0 : Nat) (l0 : List Int) (e : Int) (w : World) (hr0 : Kd.C (Kd.int .u64) w A0 l0.length l0) (hc0 : l0.length ≤ c0) (ht : lattice_shape.f l0 = some e) (he : e ≠ 0) :
    Calls Try.prog 14 #[.slice A0 l0.length c0] w fun e_ w' => e_ = .returned (.tuple #[.slice none 0 0, .int .i64 e]) ∧ Below w.heap.size w w' := by
  have hRW := Kd.C_alloc hr0 (.cells #[.slice A0 l0.length c0] 22)
  refine (callsIn_wide (n := 9)).1 ?_
  have f43 : Fence.wide.fn 43 := trivial
  have hne : (e != 0) = true := bne_iff_ne.2 he
  refine callsIn_of_wp_marks Try.func14 rfl trivial ?_ rfl
  simp only [Try.ntmps14, List.size_toArray, List.length_cons, List.length_nil, Nat.reduceAdd, Nat.reduceSub, Array.replicate_succ, Array.replicate_zero, List.push_toArray, List.append_toArray, List.nil_append, List.cons_append]
  gi_wp2_with (gi_at_call 43; refine ((callsIn_wide (n := 8)).2 (lattice_shape.calls A0 c0 l0 e _ hRW hc0 ht)).mono ?_; rintro e w1 ⟨rfl, hb1⟩)
  exact ⟨_, results_tmp2 rfl _ _ _, rfl, vbelow_step (vbelow_alloc (Below.refl _ _) _) hb1⟩
/-- What the closure has. -/
def closureF (l : List Int) : Nat → Nat := wouter (rowsF l) l.length l.length
def lattice_Missing.f (l : List Int) : Option (List S32 × Int) :=
  if okUb l then (lattice_shape.f l).bind fun e => if e = 0 then some (lackTo (closureF l) (rowsF l) (labs l.length l.length), 0) else some ([], e) else none
theorem shape_zero {l : List Int} (h : lattice_shape.f l = some 0) : l.length ≤ 16 ∧ 0 < l.length ∧ okUb l = true ∧ (ofR l).2.2 = 0 := by
  unfold lattice_shape.f at h
  split at h
  · cases h
  · next h1 =>
    split at h
    · cases h
    · next h2 =>
      unfold bits_Check.f at h
      split at h
      · next h3 =>
        simp only [Option.bind_some, Option.some.injEq] at h
        exact ⟨by omega, by omega, h3, h⟩
      · cases h
theorem shape_closure {l : List Int} (h : lattice_shape.f l = some 0) : bits_Closure.f l = some (rowsI (closureF l) l.length, 0) := by
  obtain ⟨_, _, h1, h2⟩ := shape_zero h
  unfold bits_Closure.f closureF
  rw [if_pos h1, if_pos h2]
theorem closure_lt {l : List Int} (h : lattice_shape.f l = some 0) (i : Nat) : closureF l i < 2 ^ 64 := by
  obtain ⟨h16, _, h1, _⟩ := shape_zero h
  exact wouter_lt (by omega) (rowsF_lt (okU_of h1)) _ _
theorem lattice_Missing.calls (A0 : Option Addr) (c0 : Nat) (l0 : List Int) (r1 : List S32) (r2 : Int) (w : World) (hr0 : Kd.C (Kd.int .u64) w A0 l0.length l0) (hc0 : l0.length ≤ c0) (h : lattice_Missing.f l0 = some (r1, r2)) :
    Calls Try.prog 14 #[.slice A0 l0.length c0] w fun e w' => ∃ v0_ : Value, e = .returned (.tuple #[v0_, .int .i64 r2]) ∧ Kd.R k32 32 w' w.heap.size (fun _ => True) v0_ r1 ∧ Below w.heap.size w w' := by
  unfold lattice_Missing.f at h
  split at h
  · next hU =>
    cases hs : lattice_shape.f l0 with
    | none => rw [hs] at h; cases h
    | some e =>
      rw [hs, Option.bind_some] at h
      by_cases he : e = 0
      · subst he
        rw [if_pos rfl] at h
        injection h with h
        injection h with h1 h2
        subst h1
        subst h2
        exact missing_ok A0 c0 l0 w hr0 hc0 hU (shape_zero hs).1 hs (closureF l0) (rowsF l0) rfl (closure_lt hs) (shape_closure hs)
      · rw [if_neg he] at h
        injection h with h
        injection h with h1 h2
        subst h1
        subst h2
        refine (missing_no A0 c0 l0 e w hr0 hc0 hs he).mono ?_
        rintro e_ w' ⟨rfl, hb⟩
        exact ⟨_, rfl, flow_R (World.ownsRow_nil _ _ _ _), hb⟩
  · cases h
end Go.Proofs.Ytlbjcmiegbejdaa.Q
