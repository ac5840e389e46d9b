/- Layer 11: a table beside two rows of handles, apart. -/
import Derived.Test.YtcpaakhmcpeagaaC16
import Derived.Test.YtcpaakhmcpeagaaC17
namespace Go.Proofs.Ytcpaakhmcpeagaa.Q
open Go.RowKit Go.Proofs.YtcpaakhmcpeagaaW.PrintWords Go.Proofs.YtcpaakhmcpeagaaW.PrintMore
set_option linter.unusedVariables false
set_option linter.unusedSimpArgs false
theorem R_only {b : Nat} {W W' : World} {base : Nat} {v : Value} {xs : List Int} (h : (Kd.int .u32).R 31 W base (fun _ => True) v xs) (hk : Only b W W') (hne : ∀ k, v.ownBlock = some k → k ≠ b) : (Kd.int .u32).R 31 W' base (fun _ => True) v xs :=
  Kd.R_mono (Kd.R_step (Kd.R_tight rfl h) (fun k ho hlt => hk.block k hlt (hne k ho.symm))) (fun _ _ => trivial)
theorem R_apart {W W' : World} {base : Nat} {u v : Value} {xs : List Int} (h : (Kd.int .u32).R 31 W base (fun _ => True) v xs) (hg : W.grownBy W' u.ownBlock) (hne : ∀ k, u.ownBlock = some k → v.ownBlock ≠ some k) : (Kd.int .u32).R 31 W' base (fun _ => True) v xs :=
  Kd.R_mono (Kd.R_grown (Kd.R_tight rfl h) hg (fun k ho e => hne k e.symm ho.symm)) (fun _ _ => trivial)
/-- Element j of a row of handles. -/
theorem R_at {W : World} {base : Nat} {A : Option Addr} {n c : Nat} {xs : List Int} (h : (Kd.int .u32).R 31 W base (fun _ => True) (.slice A n c) xs) (j : Nat) (hj : j < xs.length) : ∃ ad x, A = some ad ∧ xs[j]? = some x ∧ W.cell? (ad.add j) = some (.int .u32 x) := by
  obtain ⟨rfl, _, hC⟩ := Kd.R_reads' h
  obtain ⟨ad, e, hc⟩ := (Kd.reads_of_C (enc := Value.int .u32) (d := (0 : Int)) (h1 := fun _ => rfl) hC).2.2 (by omega)
  refine ⟨ad, xs[j], e, List.getElem?_eq_getElem hj, ?_⟩
  rw [hc j hj, List.getD_eq_getElem?_getD, List.getElem?_eq_getElem hj]
  rfl
/-- A table and two rows of handles, apart. -/
structure NS (w : World) (n : Nat) (W : World) (P : Nat → Pl) (v7 v8 : Value) (told dead : List Int) : Prop where
  tab : TabAt W w.heap.size P n true
  ok : Ok P
  r7 : (Kd.int .u32).R 31 W w.heap.size (fun _ => True) v7 told
  r8 : (Kd.int .u32).R 31 W w.heap.size (fun _ => True) v8 dead
  d7 : ∀ k, v7.ownBlock = some k → k ≠ w.heap.size
  d8 : ∀ k, v8.ownBlock = some k → k ≠ w.heap.size
  d78 : ∀ k, v7.ownBlock = some k → v8.ownBlock ≠ some k
  low : Below w.heap.size w W
section
variable {w W W' : World} {n : Nat} {P P' : Nat → Pl} {v7 v8 v' : Value} {told dead : List Int} {x : Int}
theorem NS.start (W : World) (hT : TabAt W w.heap.size P n true) (ok : Ok P) (hb : Below w.heap.size w W) : NS w n W P (.slice none 0 0) (.slice none 0 0) [] [] :=
  ⟨hT, ok, Kd.R_nil _ _ _ _ _, Kd.R_nil _ _ _ _ _, fun k h => by simp [Value.ownBlock] at h, fun k h => by simp [Value.ownBlock] at h, fun k h => by simp [Value.ownBlock] at h, hb⟩
theorem NS.below (S : NS w n W P v7 v8 told dead) (hb : Below W.heap.size W W') : NS w n W' P v7 v8 told dead :=
  ⟨S.tab.below hb, S.ok, Kd.R_below S.r7 hb, Kd.R_below S.r8 hb, S.d7, S.d8, S.d78, vbelow_step S.low hb⟩
theorem NS.alloc (S : NS w n W P v7 v8 told dead) (o : Obj) : NS w n (W.alloc o) P v7 v8 told dead := S.below ((Below.refl _ W).alloc (Nat.le_refl _) o)
theorem NS.only (S : NS w n W P v7 v8 told dead) (hk : Only w.heap.size W W') (hT : TabAt W' w.heap.size P' n true) (ok : Ok P') : NS w n W' P' v7 v8 told dead :=
  ⟨hT, ok, R_only S.r7 hk S.d7, R_only S.r8 hk S.d8, S.d7, S.d8, S.d78, Below.only S.low (Nat.le_refl _) hk⟩
theorem NS.app7 (S : NS w n W P v7 v8 told dead) (hr : (Kd.int .u32).R 31 W' w.heap.size (fun _ => True) v' (told ++ [x])) (hb : Below w.heap.size w W') (hg : W.grownBy W' v7.ownBlock) (hat : v'.ownBlock = v7.ownBlock ∨ ∃ b, v'.ownBlock = some b ∧ W.heap.size ≤ b) : NS w n W' P v' v8 (told ++ [x]) dead := by
  have hlt := S.tab.lt
  refine ⟨(hg.block _ hlt (fun e => S.d7 _ e.symm rfl)).trans S.tab, S.ok, hr, R_apart S.r8 hg S.d78, fun k hk => ?_, S.d8, fun k hk h8 => ?_, hb⟩
  · rcases hat with h | ⟨b, h, hle⟩
    · exact S.d7 k (h ▸ hk)
    · rw [h] at hk; injection hk with hk; omega
  · rcases hat with h | ⟨b, h, hle⟩
    · exact S.d78 k (h ▸ hk) h8
    · rw [h] at hk; injection hk with hk
      have := Kd.R_lt S.r8 k h8
      omega
theorem NS.app8 (S : NS w n W P v7 v8 told dead) (hr : (Kd.int .u32).R 31 W' w.heap.size (fun _ => True) v' (dead ++ [x])) (hb : Below w.heap.size w W') (hg : W.grownBy W' v8.ownBlock) (hat : v'.ownBlock = v8.ownBlock ∨ ∃ b, v'.ownBlock = some b ∧ W.heap.size ≤ b) : NS w n W' P v7 v' told (dead ++ [x]) := by
  have hlt := S.tab.lt
  refine ⟨(hg.block _ hlt (fun e => S.d8 _ e.symm rfl)).trans S.tab, S.ok, R_apart S.r7 hg (fun k h8 h7 => S.d78 k h7 h8), hr, S.d7, fun k hk => ?_, fun k hk h8 => ?_, hb⟩
  · rcases hat with h | ⟨b, h, hle⟩
    · exact S.d8 k (h ▸ hk)
    · rw [h] at hk; injection hk with hk; omega
  · rcases hat with h | ⟨b, h, hle⟩
    · exact S.d78 k hk (h ▸ h8)
    · rw [h] at h8; injection h8 with h8
      have := Kd.R_lt S.r7 k hk
      omega
end
end Go.Proofs.Ytcpaakhmcpeagaa.Q
