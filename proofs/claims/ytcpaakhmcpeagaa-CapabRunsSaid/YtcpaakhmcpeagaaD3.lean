/- Layer 11: the reference's table: Find, With. -/
import Derived.Test.YtcpaakhmcpeagaaD2
namespace Go.Proofs.Ytcpaakhmcpeagaa.Q
open Go.RowKit Go.Proofs.YtcpaakhmcpeagaaW.PrintWords Go.Proofs.YtcpaakhmcpeagaaW.PrintMore
set_option linter.unusedVariables false
set_option linter.unusedSimpArgs false
set_option maxHeartbeats 1000000 in
set_option maxRecDepth 100000 in
theorem rfind_a (w : World) (rb : Nat) (A : Option Addr) (cc n : Nat) (P : Nat → Pl) (hn : n ≤ 32) (ok : Ok P) (h : RT w rb A cc n P) (x : Int) (hi : atF P n x = -1) : Calls Try.prog 24 #[.pointer (some ⟨rb, 0, none⟩), .int .u32 x] w fun e w' => e = .returned (.tuple #[.agg #[.int .i64 0, .int .u8 0], .bool false]) ∧ Below w.heap.size w w' := by
  go_enter Try.func24, Try.ntmps24
  go_wp2_with fail
  refine (rplace35 _ rb A cc n P hn ok (h.alloc _) x).mono ?_
  rw [hi]
  rintro e w1 ⟨rfl, hb1⟩
  obtain ⟨hc1, hf1⟩ := vbcell hb1
  have hz1 : w.heap.size < w1.heap.size := (by have h_ := hb1.size; (try simp only [World.size_alloc] at h_); omega)
  have hc1_0 := fun o => hc1 w.heap.size o (by (try simp only [World.size_alloc]); omega)
  have hf1_0 := fun o => hf1 w.heap.size o (by (try simp only [World.size_alloc]); omega)
  have HB1 : Below w.heap.size w w1 := vbelow_step (vbelow_alloc (Below.refl _ _) _) hb1
  have T1 := h.below HB1
  clear hc1 hf1 hb1
  go_wp2
  refine bodyPost_ret (v := .tuple #[.agg #[.int .i64 0, .int .u8 0], .bool false]) (by simp [results, Try.results24, go_sem, *]) rfl ⟨rfl, (by repeat (first | (with_reducible exact Below.refl _ _) | (with_reducible exact HB1) | (with_reducible refine vbelow_alloc ?_ _) | (with_reducible refine vbelow_drew ?_) | (with_reducible refine vbelow_drewN ?_ _) | (with_reducible refine vbelow_set ?_ (by first | exact Nat.le_refl _ | (dsimp only; omega) | omega))))⟩
set_option maxHeartbeats 1000000 in
set_option maxRecDepth 100000 in
theorem rfind_b (w : World) (rb : Nat) (A : Option Addr) (cc n : Nat) (P : Nat → Pl) (hn : n ≤ 32) (ok : Ok P) (h : RT w rb A cc n P) (x : Int) (i : Nat) (hin : i < n) (hi : atF P n x = i) : Calls Try.prog 24 #[.pointer (some ⟨rb, 0, none⟩), .int .u32 x] w fun e w' => e = .returned (.tuple #[.agg #[.int .i64 (P i).c, .int .u8 (P i).r], .bool true]) ∧ Below w.heap.size w w' := by
  go_enter Try.func24, Try.ntmps24
  go_wp2_with fail
  refine (rplace35 _ rb A cc n P hn ok (h.alloc _) x).mono ?_
  rw [hi]
  rintro e w1 ⟨rfl, hb1⟩
  obtain ⟨hc1, hf1⟩ := vbcell hb1
  have hz1 : w.heap.size < w1.heap.size := (by have h_ := hb1.size; (try simp only [World.size_alloc] at h_); omega)
  have hc1_0 := fun o => hc1 w.heap.size o (by (try simp only [World.size_alloc]); omega)
  have hf1_0 := fun o => hf1 w.heap.size o (by (try simp only [World.size_alloc]); omega)
  have HB1 : Below w.heap.size w w1 := vbelow_step (vbelow_alloc (Below.refl _ _) _) hb1
  have T1 := h.below HB1
  clear hc1 hf1 hb1
  obtain ⟨vb, rfl, hrow, Q0, Q1, Q2, Q3⟩ := T1.get i hin
  have C0 := T1.cell0
  have hi0 : (0 : Int) ≤ (i : Int) := by omega
  have hi1 : (i : Int) < (n : Int) := by omega
  clear hrow
  go_wp2
  refine bodyPost_ret (v := .tuple #[.agg #[.int .i64 (P i).c, .int .u8 (P i).r], .bool true]) (by simp [results, Try.results24, go_sem, *]) rfl ⟨rfl, (by repeat (first | (with_reducible exact Below.refl _ _) | (with_reducible exact HB1) | (with_reducible refine vbelow_alloc ?_ _) | (with_reducible refine vbelow_drew ?_) | (with_reducible refine vbelow_drewN ?_ _) | (with_reducible refine vbelow_set ?_ (by first | exact Nat.le_refl _ | (dsimp only; omega) | omega))))⟩
theorem rfind24 (w : World) (rb : Nat) (A : Option Addr) (cc n : Nat) (P : Nat → Pl) (hn : n ≤ 32) (ok : Ok P) (h : RT w rb A cc n P) (x : Int) : Calls Try.prog 24 #[.pointer (some ⟨rb, 0, none⟩), .int .u32 x] w fun e w' => e = .returned (.tuple #[.agg #[.int .i64 (findF P n x).1, .int .u8 (findF P n x).2.1], .bool (findF P n x).2.2]) ∧ Below w.heap.size w w' := by
  unfold findF
  by_cases h0 : 0 ≤ atF P n x
  · have hlt := atF_lt P n x
    rw [if_pos h0]
    exact rfind_b w rb A cc n P hn ok h x _ (by omega) (by omega)
  · have hge := atF_ge P n x
    rw [if_neg h0]
    exact rfind_a w rb A cc n P hn ok h x (by omega)
theorem findF_r0 {P : Nat → Pl} (ok : Ok P) (n : Nat) (x : Int) : 0 ≤ (findF P n x).2.1 ∧ (findF P n x).2.1 ≤ 255 := by
  unfold findF
  split
  · exact ⟨ok.r0 _, ok.r1 _⟩
  · exact ⟨by show (0 : Int) ≤ 0; omega, by show (0 : Int) ≤ 255; omega⟩
theorem withF_is (P : Nat → Pl) (n : Nat) (x y : Int) : withF P n x y = if (findF P n x).2.2 = true ∧ hasR (findF P n x).2.1 y = true then findF P n x else (0, 0, false) := by
  unfold withF findF hasR
  by_cases h0 : 0 ≤ atF P n x
  · simp only [if_pos h0]
    by_cases hy : Go.bits .and .u8 (P (atF P n x).toNat).r y = y
    · rw [if_pos ⟨h0, hy⟩]; simp [hy]
    · rw [if_neg (fun e => hy e.2)]; simp [hy]
  · simp only [if_neg h0]
    rw [if_neg (fun e => h0 e.1)]; simp
set_option maxHeartbeats 1000000 in
set_option maxRecDepth 100000 in
theorem rwith_a (w : World) (rb : Nat) (A : Option Addr) (cc n : Nat) (P : Nat → Pl) (hn : n ≤ 32) (ok : Ok P) (h : RT w rb A cc n P) (x y fc fr : Int) (y0 : 0 ≤ y) (y1 : y ≤ 255) (f0 : 0 ≤ fr) (f1 : fr ≤ 255) (hF : findF P n x = (fc, fr, false)) : Calls Try.prog 26 #[.pointer (some ⟨rb, 0, none⟩), .int .u32 x, .int .u8 y] w fun e w' => e = .returned (.tuple #[.agg #[.int .i64 0, .int .u8 0], .bool false]) ∧ Below w.heap.size w w' := by
  go_enter Try.func26, Try.ntmps26
  go_wp2_with fail
  refine (rfind24 _ rb A cc n P hn ok (h.alloc _) x).mono ?_
  rw [hF]
  rintro e w1 ⟨rfl, hb1⟩
  obtain ⟨hc1, hf1⟩ := vbcell hb1
  have hz1 : w.heap.size < w1.heap.size := (by have h_ := hb1.size; (try simp only [World.size_alloc] at h_); omega)
  have K0 : w1.cell? ⟨w.heap.size, 0, none⟩ = some (.int .i64 0) := vcell hb1 (vcell_new rfl)
  have K1 : w1.cell? ⟨w.heap.size, 1, none⟩ = some (.int .u8 0) := vcell hb1 (vcell_new rfl)
  have G1 : w1.frozen? ⟨w.heap.size, 0, none⟩ = false := (hf1 w.heap.size 0 (by (try simp only [World.size_alloc]); omega)).trans (by simp [go_sem])
  have G2 : w1.frozen? ⟨w.heap.size, 1, none⟩ = false := (hf1 w.heap.size 1 (by (try simp only [World.size_alloc]); omega)).trans (by simp [go_sem])
  have HB1 : Below w.heap.size w w1 := vbelow_step (vbelow_alloc (Below.refl _ _) _) hb1
  clear hc1 hf1 hb1
  go_wp2
  refine bodyPost_ret (v := .tuple #[.agg #[.int .i64 0, .int .u8 0], .bool false]) (by simp [results, Try.results26, go_sem, *]) rfl ⟨rfl, (by repeat (first | (with_reducible exact Below.refl _ _) | (with_reducible exact HB1) | (with_reducible refine vbelow_alloc ?_ _) | (with_reducible refine vbelow_drew ?_) | (with_reducible refine vbelow_drewN ?_ _) | (with_reducible refine vbelow_set ?_ (by first | exact Nat.le_refl _ | (dsimp only; omega) | omega))))⟩
set_option maxHeartbeats 1000000 in
set_option maxRecDepth 100000 in
theorem rwith_b (w : World) (rb : Nat) (A : Option Addr) (cc n : Nat) (P : Nat → Pl) (hn : n ≤ 32) (ok : Ok P) (h : RT w rb A cc n P) (x y fc fr : Int) (y0 : 0 ≤ y) (y1 : y ≤ 255) (f0 : 0 ≤ fr) (f1 : fr ≤ 255) (hF : findF P n x = (fc, fr, true)) (hh : hasR fr y = false) : Calls Try.prog 26 #[.pointer (some ⟨rb, 0, none⟩), .int .u32 x, .int .u8 y] w fun e w' => e = .returned (.tuple #[.agg #[.int .i64 0, .int .u8 0], .bool false]) ∧ Below w.heap.size w w' := by
  go_enter Try.func26, Try.ntmps26
  go_wp2_with fail
  refine (rfind24 _ rb A cc n P hn ok (h.alloc _) x).mono ?_
  rw [hF]
  rintro e w1 ⟨rfl, hb1⟩
  obtain ⟨hc1, hf1⟩ := vbcell hb1
  have hz1 : w.heap.size < w1.heap.size := (by have h_ := hb1.size; (try simp only [World.size_alloc] at h_); omega)
  have K0 : w1.cell? ⟨w.heap.size, 0, none⟩ = some (.int .i64 0) := vcell hb1 (vcell_new rfl)
  have K1 : w1.cell? ⟨w.heap.size, 1, none⟩ = some (.int .u8 0) := vcell hb1 (vcell_new rfl)
  have G1 : w1.frozen? ⟨w.heap.size, 0, none⟩ = false := (hf1 w.heap.size 0 (by (try simp only [World.size_alloc]); omega)).trans (by simp [go_sem])
  have G2 : w1.frozen? ⟨w.heap.size, 1, none⟩ = false := (hf1 w.heap.size 1 (by (try simp only [World.size_alloc]); omega)).trans (by simp [go_sem])
  have HB1 : Below w.heap.size w w1 := vbelow_step (vbelow_alloc (Below.refl _ _) _) hb1
  clear hc1 hf1 hb1
  go_wp2_with fail
  refine (has16 _ fr y f0 f1 y0 y1).mono ?_
  rw [hh]
  rintro e w2 ⟨rfl, hb2⟩
  obtain ⟨hc2, hf2⟩ := vbcell hb2
  have hz2 : w.heap.size < w2.heap.size := (by have h_ := hb2.size; (try simp only [World.size_alloc] at h_); omega)
  have hz3 : w1.heap.size < w2.heap.size := (by have h_ := hb2.size; (try simp only [World.size_alloc] at h_); omega)
  have L0 := vcell hb2 (vcell_alloc K0 (.cells #[.int .i64 fc, .int .u8 fr] 30))
  have L1 := vcell hb2 (vcell_alloc K1 (.cells #[.int .i64 fc, .int .u8 fr] 30))
  have M0 : w2.cell? ⟨w1.heap.size, 0, none⟩ = some (.int .i64 fc) := vcell hb2 (vcell_new rfl)
  have M1 : w2.cell? ⟨w1.heap.size, 1, none⟩ = some (.int .u8 fr) := vcell hb2 (vcell_new rfl)
  have G3 : w2.frozen? ⟨w.heap.size, 0, none⟩ = false := (hf2 w.heap.size 0 (by (try simp only [World.size_alloc]); omega)).trans (by simp [go_sem, *])
  have G4 : w2.frozen? ⟨w.heap.size, 1, none⟩ = false := (hf2 w.heap.size 1 (by (try simp only [World.size_alloc]); omega)).trans (by simp [go_sem, *])
  have HB2 : Below w.heap.size w w2 := vbelow_step (vbelow_alloc HB1 _) hb2
  clear hc2 hf2 hb2 K0 K1 G1 G2 HB1
  go_wp2
  refine bodyPost_ret (v := .tuple #[.agg #[.int .i64 0, .int .u8 0], .bool false]) (by simp [results, Try.results26, go_sem, *]) rfl ⟨rfl, (by repeat (first | (with_reducible exact Below.refl _ _) | (with_reducible exact HB2) | (with_reducible refine vbelow_alloc ?_ _) | (with_reducible refine vbelow_drew ?_) | (with_reducible refine vbelow_drewN ?_ _) | (with_reducible refine vbelow_set ?_ (by first | exact Nat.le_refl _ | (dsimp only; omega) | omega))))⟩
set_option maxHeartbeats 1000000 in
set_option maxRecDepth 100000 in
theorem rwith_c (w : World) (rb : Nat) (A : Option Addr) (cc n : Nat) (P : Nat → Pl) (hn : n ≤ 32) (ok : Ok P) (h : RT w rb A cc n P) (x y fc fr : Int) (y0 : 0 ≤ y) (y1 : y ≤ 255) (f0 : 0 ≤ fr) (f1 : fr ≤ 255) (hF : findF P n x = (fc, fr, true)) (hh : hasR fr y = true) : Calls Try.prog 26 #[.pointer (some ⟨rb, 0, none⟩), .int .u32 x, .int .u8 y] w fun e w' => e = .returned (.tuple #[.agg #[.int .i64 fc, .int .u8 fr], .bool true]) ∧ Below w.heap.size w w' := by
  go_enter Try.func26, Try.ntmps26
  go_wp2_with fail
  refine (rfind24 _ rb A cc n P hn ok (h.alloc _) x).mono ?_
  rw [hF]
  rintro e w1 ⟨rfl, hb1⟩
  obtain ⟨hc1, hf1⟩ := vbcell hb1
  have hz1 : w.heap.size < w1.heap.size := (by have h_ := hb1.size; (try simp only [World.size_alloc] at h_); omega)
  have K0 : w1.cell? ⟨w.heap.size, 0, none⟩ = some (.int .i64 0) := vcell hb1 (vcell_new rfl)
  have K1 : w1.cell? ⟨w.heap.size, 1, none⟩ = some (.int .u8 0) := vcell hb1 (vcell_new rfl)
  have G1 : w1.frozen? ⟨w.heap.size, 0, none⟩ = false := (hf1 w.heap.size 0 (by (try simp only [World.size_alloc]); omega)).trans (by simp [go_sem])
  have G2 : w1.frozen? ⟨w.heap.size, 1, none⟩ = false := (hf1 w.heap.size 1 (by (try simp only [World.size_alloc]); omega)).trans (by simp [go_sem])
  have HB1 : Below w.heap.size w w1 := vbelow_step (vbelow_alloc (Below.refl _ _) _) hb1
  clear hc1 hf1 hb1
  go_wp2_with fail
  refine (has16 _ fr y f0 f1 y0 y1).mono ?_
  rw [hh]
  rintro e w2 ⟨rfl, hb2⟩
  obtain ⟨hc2, hf2⟩ := vbcell hb2
  have hz2 : w.heap.size < w2.heap.size := (by have h_ := hb2.size; (try simp only [World.size_alloc] at h_); omega)
  have hz3 : w1.heap.size < w2.heap.size := (by have h_ := hb2.size; (try simp only [World.size_alloc] at h_); omega)
  have L0 := vcell hb2 (vcell_alloc K0 (.cells #[.int .i64 fc, .int .u8 fr] 30))
  have L1 := vcell hb2 (vcell_alloc K1 (.cells #[.int .i64 fc, .int .u8 fr] 30))
  have M0 : w2.cell? ⟨w1.heap.size, 0, none⟩ = some (.int .i64 fc) := vcell hb2 (vcell_new rfl)
  have M1 : w2.cell? ⟨w1.heap.size, 1, none⟩ = some (.int .u8 fr) := vcell hb2 (vcell_new rfl)
  have G3 : w2.frozen? ⟨w.heap.size, 0, none⟩ = false := (hf2 w.heap.size 0 (by (try simp only [World.size_alloc]); omega)).trans (by simp [go_sem, *])
  have G4 : w2.frozen? ⟨w.heap.size, 1, none⟩ = false := (hf2 w.heap.size 1 (by (try simp only [World.size_alloc]); omega)).trans (by simp [go_sem, *])
  have HB2 : Below w.heap.size w w2 := vbelow_step (vbelow_alloc HB1 _) hb2
  clear hc2 hf2 hb2 K0 K1 G1 G2 HB1
  go_wp2
  refine bodyPost_ret (v := .tuple #[.agg #[.int .i64 fc, .int .u8 fr], .bool true]) (by simp [results, Try.results26, go_sem, *]) rfl ⟨rfl, (by repeat (first | (with_reducible exact Below.refl _ _) | (with_reducible exact HB2) | (with_reducible refine vbelow_alloc ?_ _) | (with_reducible refine vbelow_drew ?_) | (with_reducible refine vbelow_drewN ?_ _) | (with_reducible refine vbelow_set ?_ (by first | exact Nat.le_refl _ | (dsimp only; omega) | omega))))⟩
theorem rwith26 (w : World) (rb : Nat) (A : Option Addr) (cc n : Nat) (P : Nat → Pl) (hn : n ≤ 32) (ok : Ok P) (h : RT w rb A cc n P) (x y : Int) (y0 : 0 ≤ y) (y1 : y ≤ 255) : Calls Try.prog 26 #[.pointer (some ⟨rb, 0, none⟩), .int .u32 x, .int .u8 y] w fun e w' => e = .returned (.tuple #[.agg #[.int .i64 (withF P n x y).1, .int .u8 (withF P n x y).2.1], .bool (withF P n x y).2.2]) ∧ Below w.heap.size w w' := by
  have hr := findF_r0 ok n x
  obtain ⟨fc, fr, fb, hF⟩ : ∃ fc fr fb, findF P n x = (fc, fr, fb) := ⟨_, _, _, rfl⟩
  rw [hF] at hr
  have hW := withF_is P n x y
  rw [hF] at hW
  cases fb with
  | false =>
    rw [hW, if_neg (fun e => by cases e.1)]
    exact rwith_a w rb A cc n P hn ok h x y fc fr y0 y1 hr.1 hr.2 hF
  | true =>
    cases hh : hasR fr y with
    | false =>
      rw [hW, if_neg (fun e => by have h2 := e.2; rw [hh] at h2; cases h2)]
      exact rwith_b w rb A cc n P hn ok h x y fc fr y0 y1 hr.1 hr.2 hF hh
    | true =>
      rw [hW, if_pos ⟨rfl, hh⟩]
      exact rwith_c w rb A cc n P hn ok h x y fc fr y0 y1 hr.1 hr.2 hF hh
end Go.Proofs.Ytcpaakhmcpeagaa.Q
