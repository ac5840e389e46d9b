/- Layer 18: what stands behind any calls of a script. -/
import Derived.Test.YtkkgnmfahhkajaaP4
import Derived.Test.YtkkgnmfahhkajaaF9
namespace Go.Proofs.Ytkkgnmfahhkajaa.Q
open Go.RowKit Go.Proofs.YtkkgnmfahhkajaaW.PrintWords Go.Proofs.YtkkgnmfahhkajaaW.PrintLast Go.Proofs.YtkkgnmfahhkajaaW.PrintMore
set_option linter.unusedVariables false
set_option linter.unusedSimpArgs false
theorem ages_info3 : (Try.prog.info? 3).map (fun i => (i.zero, i.size, i.bytes)) = some (some (.int .i64 0), 1, 8) := by kernel_rfl
def ages.T20 : Bool × List (List Nat × List Nat) := (true, [([], []), ([], []), ([], []), ([1, 2], [1, 2]), ([], []), ([4], [4]), ([3, 5, 3], [3, 5]), ([], []), ([0, 6, 0], [0]), ([6, 8, 0, 1, 2, 3, 4, 5, 6, 8], [2, 6]), ([7, 9, 0, 1, 2, 3, 4, 5, 6, 7, 8, 9], [7])])
def ages.B20 : List Nat := [0, 0, 0, 6, 0, 16, 62, 0, 127, 383, 1023]
theorem ages.tab20 : rtab .any (opsOf Try.f5 20) = ages.T20 := by kernel_rfl
theorem ages.bits20 : waitsOk ages.T20.2 ages.B20 = true := by kernel_rfl
def ages.T31 : Bool × List (List Nat × List Nat) := (true, [([], []), ([], []), ([], []), ([1, 2], [1, 2]), ([0, 3], [0, 3]), ([], []), ([], []), ([6], [6]), ([5, 7], [5, 7]), ([4, 8, 4], [4, 8]), ([9, 9, 0, 1, 2, 3, 4, 5, 6, 7, 8, 9], [1, 5, 9])])
def ages.B31 : List Nat := [0, 0, 0, 6, 15, 0, 0, 64, 224, 511, 1023]
theorem ages.tab31 : rtab .any (opsOf Try.f5 31) = ages.T31 := by kernel_rfl
theorem ages.bits31 : waitsOk ages.T31.2 ages.B31 = true := by kernel_rfl
/-- The numbers of those that are pending. -/
def nums (l : List S42) : List Int := l.map fun o => o.f0
theorem nums_len (l : List S42) : (nums l).length = l.length := List.length_map _
theorem C_far0 {W : World} {A : Option Addr} {l : List S42} {p : Addr} (h : Kd.C k42 W A l.length l) (hp : 0 < l.length → ∀ ad, A = some ad → p.block ≠ ad.block) (u : Value) : Kd.C k42 (W.setCell p u) A l.length l := by
  by_cases h0 : 0 < l.length
  · exact C_far h (hp h0) u
  · exact ⟨h.1, h.2.1, fun hn => absurd hn h0⟩
theorem nums_rd {l : List S42} {k : Nat} (hk : k < l.length) : rd (nums l) (k : Int) = l[k].f0 := by simp [rd, rdOf, nums, hk]
/-- What stands behind any calls: those that are pending, in block g, and the law's own list of numbers. -/
structure PS (w : World) (g : Nat) (wr : World) (n b last : Int) (l : List S42) (v8 : Value) : Prop where
  blk : ∃ A c, wr.heap[g]? = some (.cells #[.int .i64 n, .int .i64 b, .slice A l.length c] 24 (0, 0)) ∧ l.length ≤ c ∧ Kd.C k42 wr A l.length l ∧ (0 < l.length → ∀ ad, A = some ad → g ≠ ad.block)
  own : (Kd.int .i64).R 3 wr w.heap.size (fun k => k ≠ g) v8 (nums l)
  low : Below w.heap.size w wr
  gw : w.heap.size ≤ g
  chk : chkV n b l = 0
  last : last < b
section
variable {w wr W : World} {g : Nat} {n b last : Int} {l : List S42} {v8 : Value}
theorem PS.below (S : PS w g wr n b last l v8) (hb : Below wr.heap.size wr W) : PS w g W n b last l v8 := by
  obtain ⟨A, c, h1, h2, h3, h4⟩ := S.blk
  exact ⟨⟨A, c, (hb.block g (heap_lt h1)).trans h1, h2, Kd.C_below h3 hb, h4⟩, Kd.R_below S.own hb, vbelow_step S.low hb, S.gw, S.chk, S.last⟩
theorem PS.alloc (S : PS w g wr n b last l v8) (o : Obj) : PS w g (wr.alloc o) n b last l v8 := S.below (vbelow_alloc (Below.refl _ _) o)
theorem PS.drew (S : PS w g wr n b last l v8) : PS w g wr.drew n b last l v8 := S.below (vbelow_drew (Below.refl _ _))
theorem PS.put {A : Option Addr} {c : Nat} {u0 u1 u2 : Value} (HP : W.heap[g]? = some (.cells #[u0, u1, u2] 24 (0, 0))) (HB : Below w.heap.size w W) (gw : w.heap.size ≤ g) (hc : l.length ≤ c) (hC : Kd.C k42 W A l.length l) (hF : 0 < l.length → ∀ ad, A = some ad → g ≠ ad.block) (ho : (Kd.int .i64).R 3 W w.heap.size (fun k => k ≠ g) v8 (nums l)) (chk : chkV n b l = 0) (hl : last < b) :
    PS w g (((W.setCell ⟨g, 0, none⟩ (.int .i64 n)).setCell ⟨g, 1, none⟩ (.int .i64 b)).setCell ⟨g, 2, none⟩ (.slice A l.length c)) n b last l v8 :=
  ⟨⟨A, c, put3 HP _ _ _, hc, C_far0 (p := ⟨g, 2, none⟩) (C_far0 (p := ⟨g, 1, none⟩) (C_far0 (p := ⟨g, 0, none⟩) hC hF _) hF _) hF _, hF⟩,
    Kd.R_far (p := ⟨g, 2, none⟩) (Kd.R_far (p := ⟨g, 1, none⟩) (Kd.R_far (p := ⟨g, 0, none⟩) ho (fun _ h => h) _) (fun _ h => h) _) (fun _ h => h) _,
    vbelow_set (vbelow_set (vbelow_set HB gw) gw) gw, gw, chk, hl⟩
theorem R_kept {base : Nat} {ok : Nat → Prop} {xs : List Int} (h : (Kd.int .i64).R 3 wr base ok v8 xs) {row : Option Nat} (hg : wr.grownBy W row) (hok : ∀ k, ok k → some k ≠ row) : (Kd.int .i64).R 3 W base ok v8 xs := Kd.R_step h (fun k ho hk => hg.block k hk (hok k ho))
/-- A row of one's own, made since: it is no elder block. -/
theorem R_fresh {base : Nat} {ok : Nat → Prop} {xs : List Int} (h : (Kd.int .i64).R 3 W base ok v8 xs) (hg : g < base) (hw : w.heap.size ≤ base) : (Kd.int .i64).R 3 W w.heap.size (fun k => k ≠ g) v8 xs :=
  Kd.R_lower (Kd.R_mono (Kd.R_bound h) (fun k hk => by have := hk.2.1; omega)) hw
theorem PS.room (S : PS w g wr n b last l v8) : (l.length : Int) ≤ n ∧ 1 ≤ n ∧ n ≤ 4 := by
  obtain ⟨q1, q2, q3, q4, q5, q6⟩ := chk_bounds S.chk
  exact ⟨q5, q1, q2⟩
theorem PS.slice (S : PS w g wr n b last l v8) : ∃ A c, v8 = .slice A (nums l).length c ∧ (nums l).length ≤ c ∧ (Kd.int .i64).C wr A (nums l).length (nums l) := by
  obtain ⟨A, c, e⟩ := Kd.R_slice S.own
  subst e
  have h := Kd.R_reads' S.own
  exact ⟨A, c, rfl, h.2⟩
end
theorem fresh_PS {w W : World} {n : Int} {A : Option Addr} {c : Nat} (HB : Below w.heap.size w W) (hC : Kd.C k42 W A 0 []) (h1 : 1 ≤ n) (h4 : n ≤ 4) : PS w W.heap.size (W.alloc (.cells #[.int .i64 n, .int .i64 1, .slice A 0 c] 24)) n 1 0 [] (.slice none 0 0) :=
  ⟨⟨A, c, heap_alloc_new W _, Nat.zero_le _, Kd.C_alloc hC _, fun h0 => absurd h0 (by decide)⟩, Kd.R_nil _ _ _ _ _, vbelow_alloc HB _, HB.size, chk_mk h1 h4 (by decide) (by decide) (by show (0 : Int) ≤ n; omega) rfl, by decide⟩
end Go.Proofs.Ytkkgnmfahhkajaa.Q
