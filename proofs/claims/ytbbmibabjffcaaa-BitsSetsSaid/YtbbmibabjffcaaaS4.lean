/- Layer 1: a set's members told to the law's function value. -/
import Derived.Test.YtbbmibabjffcaaaS1
import Derived.Test.YtbbmibabjffcaaaS2
namespace Go.Proofs.Ytbbmibabjffcaaa.Q
open Go.RowKit Go.Shelf Go.Proofs.YtbbmibabjffcaaaW.PrintWords Go.Proofs.YtbbmibabjffcaaaW.PrintMore
set_option linter.unusedVariables false
set_option linter.unusedSimpArgs false
theorem boxed_below {n B : Nat} {W W' : World} {t : TypeId} {v : Value} (h : Boxed W B t v) (hb : Below n W W') (hB : B < n) : Boxed W' B t v := (hb.block B hB).trans h
theorem all_calls (s : Nat) (w : World) : Calls Try.prog 18 #[.int .u64 s] w fun e w' => ∃ Bs, e = .returned (.func (.func 41) #[] #[.pointer (some ⟨Bs, 0, none⟩)]) ∧ Boxed w' Bs 23 (.int .u64 s) ∧ w.heap.size ≤ Bs ∧ Below w.heap.size w w' := by
  refine (callsIn_wide.1 (all_in Fence.wide 1 trivial rfl (s : Int) w)).mono ?_
  rintro e w' ⟨rfl, rfl⟩
  exact ⟨_, rfl, Boxed.new _ _ _, Nat.le_refl _, (Below.refl _ w).alloc (Nat.le_refl _) _⟩
/-- What holds between two tellings. -/
def Told (Bg Bm n1 m : Nat) (W0 : World) (pre : List (Fin 64)) (W : World) : Prop :=
  (∃ v, Boxed W Bg 22 v ∧ W.ownsRow n1 3 1 v pre.length ((vals pre).map (Value.int .i64))) ∧ n1 ≤ W.heap.size ∧ W.cell? ⟨Bm, 0, none⟩ = some (.int .i64 m) ∧ Below n1 W0 W
theorem told_row {Bg Bm n1 m : Nat} {W0 W : World} {pre : List (Fin 64)} (h : Told Bg Bm n1 m W0 pre W) : ∃ v, Boxed W Bg 22 v ∧ Kd.R (Kd.int .i64) 3 W n1 (fun _ => True) v (vals pre) := by
  obtain ⟨⟨v, hv, hrow⟩, _⟩ := h
  rw [← vals_len pre] at hrow
  exact ⟨v, hv, Kd.R_of_own hrow (fun _ _ => trivial)⟩
theorem seq_calls (s : Nat) (hs : s < 2 ^ 64) (Bs Bm Bg n1 m : Nat) (hm1 : 1 ≤ m) (hm : m ≤ 64) (W0 : World) (hM : W0.cell? ⟨Bm, 0, none⟩ = some (.int .i64 m)) (hBm : Bm < n1) (hBs : Bs < n1) (hS : W0.cell? ⟨Bs, 0, none⟩ = some (.int .u64 s))
    (hg : Boxed W0 Bg 22 (.slice none 0 0)) (hn1 : n1 ≤ Bg) (hz : n1 ≤ W0.heap.size) :
    Calls Try.prog 41 #[.func (.func 19) #[] #[.pointer (some ⟨Bg, 0, none⟩), .pointer (some ⟨Bm, 0, none⟩)], .pointer (some ⟨Bs, 0, none⟩)] W0 fun e W' => (∃ v, e = .returned v) ∧
      Below n1 W0 W' ∧ ∃ v, Boxed W' Bg 22 v ∧ Kd.R (Kd.int .i64) 3 W' n1 (fun _ => True) v ((vals (pfx s 64)).take m) := by
  refine (callsIn_wide.1 (all1_fn Fence.wide 4 trivial trivial trivial trivial rfl (by decide) Bs s hs (.pointer (some ⟨Bg, 0, none⟩)) (.pointer (some ⟨Bm, 0, none⟩)) (fun pre W => pre.length < m ∧ Told Bg Bm n1 m W0 pre W) (fun pre W => pre.length = m ∧ Told Bg Bm n1 m W0 pre W) ?_ W0 hS ⟨hm1, ⟨_, hg, World.ownsRow_nil _ _ _ _⟩, hz, hM, Below.refl _ _⟩)).mono ?_
  · rintro k pre x W ⟨hlt, hT⟩ h64
    refine (sets1_in Fence.wide k trivial rfl Bg Bm n1 m hn1 hBm pre x h64 hm W0 W hM hT).mono ?_
    rintro e W' ⟨rfl, hr, hz', hM', hB', hWW⟩
    have hT' : Told Bg Bm n1 m W0 (pre ++ [x]) W' := ⟨by rw [List.length_append, List.length_singleton]; exact hr, hz', hM', hB'⟩
    by_cases hc : pre.length + 1 < m
    · refine .inl ⟨by rw [decide_eq_true (by omega)], ⟨by simpa using hc, hT'⟩, hWW.cell hBs⟩
    · refine .inr ⟨by rw [decide_eq_false (by omega)], by simp; omega, hT'⟩
  · rintro e W' ⟨hv, ⟨ys, rfl, hlt, hT⟩ | ⟨pre, hp, hl, hT⟩⟩
    · refine ⟨hv, hT.2.2.2, ?_⟩
      rw [List.take_of_length_le (by rw [vals_len]; omega)]
      exact told_row hT
    · refine ⟨hv, hT.2.2.2, ?_⟩
      obtain ⟨t, ht⟩ := hp
      have e : (vals (pfx s 64)).take m = vals pre := by
        rw [← ht]
        unfold vals
        rw [List.map_append, List.take_left' (by rw [List.length_map]; exact hl)]
      rw [e]
      exact told_row hT
end Go.Proofs.Ytbbmibabjffcaaa.Q
