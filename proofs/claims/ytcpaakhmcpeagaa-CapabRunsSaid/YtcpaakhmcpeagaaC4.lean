/- Layer 11: what a handle stands for. -/
import Derived.Test.YtcpaakhmcpeagaaC3
namespace Go.Proofs.Ytcpaakhmcpeagaa.Q
open Go.RowKit Go.Proofs.YtcpaakhmcpeagaaW.PrintWords Go.Proofs.YtcpaakhmcpeagaaW.PrintMore
set_option linter.unusedVariables false
set_option linter.unusedSimpArgs false
set_option maxHeartbeats 1000000 in
set_option maxRecDepth 100000 in
theorem with25_a (w : World) (b : Nat) (P : Nat → Pl) (n : Nat) (hn : n ≤ 32) (ok : Ok P) (h : TabAt w b P n true) (x : Int) (x0 : 0 ≤ x) (x1 : x < 4294967296) (y : Int) (hi : atF P n x = -1) : Calls Try.prog 25 #[.pointer (some ⟨b, 0, none⟩), .int .u32 x, .int .u8 y] w fun e w' => e = .returned (.tuple #[.agg #[.int .i64 0, .int .u8 0], .bool false]) ∧ Below w.heap.size w w' := by
  have h1 := h.alloc (.cells #[.int .i64 0, .int .u8 0] 30)
  have hz0 : w.heap.size < (w.alloc (.cells #[.int .i64 0, .int .u8 0] 30)).heap.size := by rw [World.size_alloc]; omega
  go_enter Try.func25, Try.ntmps25
  go_wp2_with fail
  refine (at31 _ b P n hn ok (h.alloc _) x x0 x1).mono ?_
  rintro e w1 ⟨rfl, hb1⟩
  obtain ⟨hc1, hf1⟩ := vbcell hb1
  have hz1 : w.heap.size < w1.heap.size := (by have h_ := hb1.size; (try simp only [World.size_alloc] at h_); omega)
  have hc1_0 := fun o => hc1 w.heap.size o (by (try simp only [World.size_alloc]); omega)
  have hf1_0 := fun o => hf1 w.heap.size o (by (try simp only [World.size_alloc]); omega)
  have HB1 : Below w.heap.size w w1 := vbelow_step (vbelow_alloc (Below.refl _ _) _) hb1
  have T1 := h.below HB1
  clear hc1 hf1 hb1 h1 hz0
  rw [hi]
  go_wp2
  refine bodyPost_ret (v := .tuple #[.agg #[.int .i64 0, .int .u8 0], .bool false]) (by simp [results, Try.results25, go_sem, *]) rfl ⟨rfl, (by repeat (first | (with_reducible exact Below.refl _ _) | (with_reducible exact HB1) | (with_reducible refine vbelow_alloc ?_ _) | (with_reducible refine vbelow_drew ?_) | (with_reducible refine vbelow_drewN ?_ _) | (with_reducible refine vbelow_set ?_ (by first | exact Nat.le_refl _ | (dsimp only; omega) | omega))))⟩
set_option maxHeartbeats 1000000 in
set_option maxRecDepth 100000 in
theorem with25_b (w : World) (b : Nat) (P : Nat → Pl) (n : Nat) (hn : n ≤ 32) (ok : Ok P) (h : TabAt w b P n true) (x : Int) (x0 : 0 ≤ x) (x1 : x < 4294967296) (y : Int) (i : Nat) (hin : i < n) (hi : atF P n x = i) (hy : Go.bits .and .u8 (P i).r y ≠ y) : Calls Try.prog 25 #[.pointer (some ⟨b, 0, none⟩), .int .u32 x, .int .u8 y] w fun e w' => e = .returned (.tuple #[.agg #[.int .i64 0, .int .u8 0], .bool false]) ∧ Below w.heap.size w w' := by
  have hbn : (Go.bits .and .u8 (P i).r y != y) = true := bne_iff_ne.2 hy
  have hbe : (Go.bits .and .u8 (P i).r y == y) = false := beq_eq_false_iff_ne.2 hy
  have hbd : decide (Go.bits .and .u8 (P i).r y = y) = false := decide_eq_false hy
  have h1 := h.alloc (.cells #[.int .i64 0, .int .u8 0] 30)
  have hz0 : w.heap.size < (w.alloc (.cells #[.int .i64 0, .int .u8 0] 30)).heap.size := by rw [World.size_alloc]; omega
  go_enter Try.func25, Try.ntmps25
  go_wp2_with fail
  refine (at31 _ b P n hn ok (h.alloc _) x x0 x1).mono ?_
  rintro e w1 ⟨rfl, hb1⟩
  obtain ⟨hc1, hf1⟩ := vbcell hb1
  have hz1 : w.heap.size < w1.heap.size := (by have h_ := hb1.size; (try simp only [World.size_alloc] at h_); omega)
  have hc1_0 := fun o => hc1 w.heap.size o (by (try simp only [World.size_alloc]); omega)
  have hf1_0 := fun o => hf1 w.heap.size o (by (try simp only [World.size_alloc]); omega)
  have HB1 : Below w.heap.size w w1 := vbelow_step (vbelow_alloc (Below.refl _ _) _) hb1
  have T1 := h.below HB1
  clear hc1 hf1 hb1 h1 hz0
  rw [hi]
  have hi32 : (i : Int) < 32 := by omega
  have hi0 : (0 : Int) ≤ (i : Int) := by omega
  have Q2 := T1.c i (by omega)
  have Q3 := T1.r i (by omega)
  go_wp2
  refine bodyPost_ret (v := .tuple #[.agg #[.int .i64 0, .int .u8 0], .bool false]) (by simp [results, Try.results25, go_sem, *]) rfl ⟨rfl, (by repeat (first | (with_reducible exact Below.refl _ _) | (with_reducible exact HB1) | (with_reducible refine vbelow_alloc ?_ _) | (with_reducible refine vbelow_drew ?_) | (with_reducible refine vbelow_drewN ?_ _) | (with_reducible refine vbelow_set ?_ (by first | exact Nat.le_refl _ | (dsimp only; omega) | omega))))⟩
set_option maxHeartbeats 1000000 in
set_option maxRecDepth 100000 in
theorem with25_c (w : World) (b : Nat) (P : Nat → Pl) (n : Nat) (hn : n ≤ 32) (ok : Ok P) (h : TabAt w b P n true) (x : Int) (x0 : 0 ≤ x) (x1 : x < 4294967296) (y : Int) (i : Nat) (hin : i < n) (hi : atF P n x = i) (hy : Go.bits .and .u8 (P i).r y = y) : Calls Try.prog 25 #[.pointer (some ⟨b, 0, none⟩), .int .u32 x, .int .u8 y] w fun e w' => e = .returned (.tuple #[.agg #[.int .i64 (P i).c, .int .u8 (P i).r], .bool true]) ∧ Below w.heap.size w w' := by
  have h1 := h.alloc (.cells #[.int .i64 0, .int .u8 0] 30)
  have hz0 : w.heap.size < (w.alloc (.cells #[.int .i64 0, .int .u8 0] 30)).heap.size := by rw [World.size_alloc]; omega
  go_enter Try.func25, Try.ntmps25
  go_wp2_with fail
  refine (at31 _ b P n hn ok (h.alloc _) x x0 x1).mono ?_
  rintro e w1 ⟨rfl, hb1⟩
  obtain ⟨hc1, hf1⟩ := vbcell hb1
  have hz1 : w.heap.size < w1.heap.size := (by have h_ := hb1.size; (try simp only [World.size_alloc] at h_); omega)
  have hc1_0 := fun o => hc1 w.heap.size o (by (try simp only [World.size_alloc]); omega)
  have hf1_0 := fun o => hf1 w.heap.size o (by (try simp only [World.size_alloc]); omega)
  have HB1 : Below w.heap.size w w1 := vbelow_step (vbelow_alloc (Below.refl _ _) _) hb1
  have T1 := h.below HB1
  clear hc1 hf1 hb1 h1 hz0
  rw [hi]
  have hi32 : (i : Int) < 32 := by omega
  have hi0 : (0 : Int) ≤ (i : Int) := by omega
  have Q2 := T1.c i (by omega)
  have Q3 := T1.r i (by omega)
  go_wp2
  refine bodyPost_ret (v := .tuple #[.agg #[.int .i64 (P i).c, .int .u8 (P i).r], .bool true]) (by simp [results, Try.results25, go_sem, *]) rfl ⟨rfl, (by repeat (first | (with_reducible exact Below.refl _ _) | (with_reducible exact HB1) | (with_reducible refine vbelow_alloc ?_ _) | (with_reducible refine vbelow_drew ?_) | (with_reducible refine vbelow_drewN ?_ _) | (with_reducible refine vbelow_set ?_ (by first | exact Nat.le_refl _ | (dsimp only; omega) | omega))))⟩
def withF (P : Nat → Pl) (n : Nat) (x y : Int) : Int × Int × Bool := if 0 ≤ atF P n x ∧ Go.bits .and .u8 (P (atF P n x).toNat).r y = y then ((P (atF P n x).toNat).c, (P (atF P n x).toNat).r, true) else (0, 0, false)
theorem with25 (w : World) (b : Nat) (P : Nat → Pl) (n : Nat) (hn : n ≤ 32) (ok : Ok P) (h : TabAt w b P n true) (x : Int) (x0 : 0 ≤ x) (x1 : x < 4294967296) (y : Int) : Calls Try.prog 25 #[.pointer (some ⟨b, 0, none⟩), .int .u32 x, .int .u8 y] w fun e w' => e = .returned (.tuple #[.agg #[.int .i64 (withF P n x y).1, .int .u8 (withF P n x y).2.1], .bool (withF P n x y).2.2]) ∧ Below w.heap.size w w' := by
  unfold withF
  by_cases h0 : 0 ≤ atF P n x
  · have hlt := atF_lt P n x
    have hi : atF P n x = ((atF P n x).toNat : Int) := by omega
    by_cases hy : Go.bits .and .u8 (P (atF P n x).toNat).r y = y
    · rw [if_pos ⟨h0, hy⟩]
      exact with25_c w b P n hn ok h x x0 x1 y _ (by omega) hi hy
    · rw [if_neg (fun e => hy e.2)]
      exact with25_b w b P n hn ok h x x0 x1 y _ (by omega) hi hy
  · rw [if_neg (fun e => h0 e.1)]
    have hge := atF_ge P n x
    exact with25_a w b P n hn ok h x x0 x1 y (by omega)
theorem wraps_u8 (n : Int) (h0 : 0 ≤ n) (h1 : n < 2 ^ 8) : IntKind.u8.wrap n = n := by rw [IntKind.wrap_u8]; omega
theorem and8_0 (x : Int) (h0 : 0 ≤ x) (h1 : x ≤ 255) : Go.bits .and .u8 x 0 = 0 := (bits_mask .u8 8 (by decide) wraps_u8 0 (by decide) x h0 (by omega)).trans (by omega)
/-- What a handle stands for. -/
def findF (P : Nat → Pl) (n : Nat) (x : Int) : Int × Int × Bool := if 0 ≤ atF P n x then ((P (atF P n x).toNat).c, (P (atF P n x).toNat).r, true) else (0, 0, false)
theorem withF_0 (P : Nat → Pl) (n : Nat) (x : Int) (ok : Ok P) : withF P n x 0 = findF P n x := by
  unfold withF findF
  by_cases h0 : 0 ≤ atF P n x
  · rw [if_pos ⟨h0, and8_0 _ (ok.r0 _) (ok.r1 _)⟩, if_pos h0]
  · rw [if_neg (fun e => h0 e.1), if_neg h0]
set_option maxHeartbeats 1000000 in
set_option maxRecDepth 100000 in
theorem find13 (w : World) (b : Nat) (P : Nat → Pl) (n : Nat) (hn : n ≤ 32) (ok : Ok P) (h : TabAt w b P n true) (x : Int) (x0 : 0 ≤ x) (x1 : x < 4294967296) : Calls Try.prog 13 #[.pointer (some ⟨b, 0, none⟩), .int .u32 x] w fun e w' => e = .returned (.tuple #[.agg #[.int .i64 (findF P n x).1, .int .u8 (findF P n x).2.1], .bool (findF P n x).2.2]) ∧ Below w.heap.size w w' := by
  have hF := withF_0 P n x ok
  obtain ⟨fc, fr, fb, hf⟩ : ∃ fc fr fb, findF P n x = (fc, fr, fb) := ⟨_, _, _, rfl⟩
  rw [hf] at hF ⊢
  go_enter Try.func13, Try.ntmps13
  go_wp2_with fail
  refine (with25 _ b P n hn ok (h.alloc _) x x0 x1 0).mono ?_
  rw [hF]
  rintro e w1 ⟨rfl, hb1⟩
  obtain ⟨hc1, hf1⟩ := vbcell hb1
  have hz1 : w.heap.size < w1.heap.size := (by have h_ := hb1.size; (try simp only [World.size_alloc] at h_); omega)
  have hc1_0 := fun o => hc1 w.heap.size o (by (try simp only [World.size_alloc]); omega)
  have hf1_0 := fun o => hf1 w.heap.size o (by (try simp only [World.size_alloc]); omega)
  have HB1 : Below w.heap.size w w1 := vbelow_step (vbelow_alloc (Below.refl _ _) _) hb1
  clear hc1 hf1 hb1
  go_wp2
  refine bodyPost_ret (v := .tuple #[.agg #[.int .i64 fc, .int .u8 fr], .bool fb]) (by simp [results, Try.results13, go_sem, *]) rfl ⟨rfl, (by repeat (first | (with_reducible exact Below.refl _ _) | (with_reducible exact HB1) | (with_reducible refine vbelow_alloc ?_ _) | (with_reducible refine vbelow_drew ?_) | (with_reducible refine vbelow_drewN ?_ _) | (with_reducible refine vbelow_set ?_ (by first | exact Nat.le_refl _ | (dsimp only; omega) | omega))))⟩
end Go.Proofs.Ytcpaakhmcpeagaa.Q
