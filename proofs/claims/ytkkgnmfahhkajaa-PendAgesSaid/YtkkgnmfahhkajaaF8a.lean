/- Layer 18: cuts and rows of operations. -/
import Derived.Test.YtkkgnmfahhkajaaV
import Derived.Test.YtkkgnmfahhkajaaQx0
import Derived.Test.YtkkgnmfahhkajaaF4
namespace Go.Proofs.Ytkkgnmfahhkajaa.Q
open Go.RowKit Go.Proofs.YtkkgnmfahhkajaaW.PrintWords Go.Proofs.YtkkgnmfahhkajaaW.PrintMore
set_option linter.unusedVariables false
set_option linter.unusedSimpArgs false
/-- The twelve cells of an operation. -/
def cl (o : S42) : List Value := [.int .i64 o.f0, .int .u8 o.f1.f0, .int .u8 o.f1.f1, .int .u8 o.f1.f2, .int .u32 o.f1.f3, .int .u64 o.f1.f4, .int .i64 o.f2, .int .i64 o.f3, .int .i64 o.f4, .int .u64 o.f5.f0, .int .u64 o.f5.f1, .int .u64 o.f6]
theorem cl_len (o : S42) : (cl o).length = 12 := rfl
theorem reps_one {w : World} {L : List S42} {cs : List Value} (h : Reps (k42.K w) 12 L cs) : ∀ v ∈ cs, v.oneCell' = true := by
  intro v hv
  obtain ⟨j, hj, rfl⟩ := List.getElem_of_mem hv
  have hcl : cs.length = L.length * 12 := h.1
  have hq : j / 12 < L.length := by omega
  refine k42.K_one (h.2 (j / 12) _ (List.getElem?_eq_getElem hq)) _ ?_
  refine List.mem_iff_getElem?.2 ⟨j % 12, ?_⟩
  rw [List.getElem?_take, if_pos (Nat.mod_lt _ (by decide)), List.getElem?_drop, show j / 12 * 12 + j % 12 = j by omega, List.getElem?_eq_getElem hj]
/-- A row that append has made is a row of operations. -/
theorem grown_R {W w' : World} {base : Nat} {v : Value} {n m : Nat} {L1 L2 : List S42} {c1 c2 : List Value} (h1 : Reps (k42.K W) 12 L1 c1) (h2 : Reps (k42.K W) 12 L2 c2) (hn : L1.length = n) (hm : L2.length = m) (ho : w'.ownsRow W.heap.size 42 12 v (n + m) (c1 ++ c2)) (hb : base ≤ W.heap.size) : k42.R 42 w' base (fun _ => True) v (L1 ++ L2) := by
  refine ⟨fun _ _ => trivial, c1 ++ c2, ?_, (Kd.reps_append h1 h2).imp_ (fun _ _ hp => k42_flat hp)⟩
  rw [List.length_append, hn, hm]
  exact own_weaken ho hb
theorem cut_hi (g n i : Nat) (hi : i ≤ n) (W : World) : (Instr.slice 22 (.slice (some ⟨g, 0, none⟩) n n) none (some (.int .i64 (i : Int))) (some (.int .i64 (i : Int)))).run Try.prog W = .ok (.slice (some ⟨g, 0, none⟩) i i) W := by
  obtain ⟨i0, hi0, _, hsz, _⟩ := info_parts info42
  have hel : Try.prog.elem 22 = 42 := by simp [Program.elem, Try.underlying22]
  have hu : Try.prog.underlying 22 = some (.slice (Try.prog.elem 22)) := by rw [hel]; exact Try.underlying22
  rw [run_slice_hm W 22 (some ⟨g, 0, none⟩) n n hu .i64 .i64 (i : Int) (i : Int) (by omega) (Int.le_refl _) (by omega), hel]
  simp [sizeOf, typeInfo, hi0, hsz, sliced, Result.andThen]
  try (by_cases h : i = 0 <;> simp [h, Addr.add])
theorem cut_lo (g n i : Nat) (hi : i < n) (W : World) : (Instr.slice 22 (.slice (some ⟨g, 0, none⟩) n n) (some (.int .i64 ((i : Int) + 1))) none none).run Try.prog W = .ok (.slice (if n = i + 1 then some ⟨g, 0, none⟩ else (some (⟨g, 0, none⟩ : Addr)).map (·.add ((i + 1) * 12))) (n - (i + 1)) (n - (i + 1))) W := by
  obtain ⟨i0, hi0, _, hsz, _⟩ := info_parts info42
  have hel : Try.prog.elem 22 = 42 := by simp [Program.elem, Try.underlying22]
  have hu : Try.prog.underlying 22 = some (.slice (Try.prog.elem 22)) := by rw [hel]; exact Try.underlying22
  rw [run_slice_l W 22 (some ⟨g, 0, none⟩) n n hu .i64 ((i : Int) + 1) (by omega) (by omega), hel]
  have e : ((i : Int) + 1).toNat = i + 1 := by omega
  simp [sizeOf, typeInfo, hi0, hsz, sliced, Result.andThen, e]
theorem heap_lt {W : World} {k : Nat} {o : Obj} (h : W.heap[k]? = some o) : k < W.heap.size := (Array.getElem?_eq_some_iff.1 h).1
theorem below_grown {base : Nat} {w0 W W1 : World} (h : Below base w0 W) (hg : W.grownBy W1 none) (hb : base ≤ w0.heap.size := by exact Nat.le_refl _) : Below base w0 W1 := h.trans ⟨hg.os, hg.tape, hg.output, hg.size, fun k hk => hg.block k (Nat.lt_of_lt_of_le hk (Nat.le_trans hb h.size)) (by simp)⟩
theorem cut_cells {W : World} {g i : Nat} {l : List S42} (h : Kd.C k42 W (some ⟨g, 0, none⟩) l.length l) (hi : i + 1 < l.length) : ∃ c1 c2, c1.length = i * 12 ∧ Reps (k42.K W) 12 (l.take i) c1 ∧ (∀ j u, c1[j]? = some u → W.cell? ((⟨g, 0, none⟩ : Addr).add j) = some u) ∧ c2.length = (l.length - (i + 1)) * 12 ∧ Reps (k42.K W) 12 (l.drop (i + 1)) c2 ∧ ∀ j u, c2[j]? = some u → W.cell? (((⟨g, 0, none⟩ : Addr).add ((i + 1) * 12)).add j) = some u := by
  have h1 := Kd.C_take h (m := i) (by omega)
  have h2 := Kd.C_drop h (m := i + 1) (c := l.length) (by omega) (Nat.le_refl _)
  rw [if_neg (by omega)] at h2
  obtain ⟨c1, r1, q1⟩ := ReadsRow.inner_ h1
  obtain ⟨c2, r2, q2⟩ := ReadsRow.inner_ (ad := (⟨g, 0, none⟩ : Addr).add ((i + 1) * 12)) h2
  refine ⟨c1, c2, ?_, r1, q1, ?_, r2, q2⟩
  · rw [r1.1, List.length_take, Nat.min_eq_left (by omega)]; rfl
  · rw [r2.1, List.length_drop]; rfl
theorem finish4 {w' : World} {base x z m c : Nat} {A : Option Addr} {L : List S42} {x0 x1 x2 z0 z1 z2 : Value} (hx : w'.heap[x]? = some (.cells #[x0, x1, x2] 24 (0, 0))) (hz : w'.heap[z]? = some (.cells #[z0, z1, z2] 24 (0, 0))) (hxz : z ≠ x) (hR : k42.R 42 w' base (fun _ => True) (.slice A m c) L) (u v0 v1 v2 : Value) : ((((w'.setCell ⟨x, 2, none⟩ u).setCell ⟨z, 0, none⟩ v0).setCell ⟨z, 1, none⟩ v1).setCell ⟨z, 2, none⟩ v2).heap[z]? = some (.cells #[v0, v1, v2] 24 (0, 0)) ∧ Kd.C k42 ((((w'.setCell ⟨x, 2, none⟩ u).setCell ⟨z, 0, none⟩ v0).setCell ⟨z, 1, none⟩ v1).setCell ⟨z, 2, none⟩ v2) A L.length L ∧ L.length ≤ c ∧ m = L.length := by
  have hz2 := blk_far (p := ⟨x, 2, none⟩) hz hxz u
  refine ⟨put3 hz2 _ _ _, ?_, ?_, ?_⟩
  · exact (Kd.R_reads' (Kd.R_far (Kd.R_far (Kd.R_far (Kd.R_far (Kd.R_types (Kd.R_types hR hx (by decide)) hz (by decide)) (p := ⟨x, 2, none⟩) (fun k hk => hk.1.2) u) (p := ⟨z, 0, none⟩) (fun k hk => hk.2) v0) (p := ⟨z, 1, none⟩) (fun k hk => hk.2) v1) (p := ⟨z, 2, none⟩) (fun k hk => hk.2) v2)).2.2
  · have h := Kd.R_reads' hR; omega
  · exact (Kd.R_reads' hR).1
end Go.Proofs.Ytkkgnmfahhkajaa.Q
