/- Layer 11: where a handle stands. -/
import Derived.Test.YtcpaakhmcpeagaaC2
namespace Go.Proofs.Ytcpaakhmcpeagaa.Q
open Go.RowKit Go.Proofs.YtcpaakhmcpeagaaW.PrintWords Go.Proofs.YtcpaakhmcpeagaaW.PrintMore
set_option linter.unusedVariables false
set_option linter.unusedSimpArgs false
/-- What may stand in a table: rights are a byte; a taken place has a generation that is one. -/
structure Ok (P : Nat → Pl) : Prop where
  r0 : ∀ i, 0 ≤ (P i).r
  r1 : ∀ i, (P i).r ≤ 255
  g0 : ∀ i, 1 ≤ (P i).g
  g1 : ∀ i, (P i).g ≤ 65536
  tg : ∀ i, (P i).t = true → (P i).g ≤ 65535
def hd (P : Nat → Pl) (i : Nat) : Int := (handleR i (P i).r (P i).g).1
/-- Where a handle stands; below 0: nowhere. -/
def atF (P : Nat → Pl) (n : Nat) (h : Int) : Int := if (h % 256).toNat < n ∧ (P (h % 256).toNat).t = true ∧ hd P (h % 256).toNat = h then ((h % 256).toNat : Int) else -1
theorem atF_lt (P : Nat → Pl) (n : Nat) (h : Int) : atF P n h < n := by unfold atF; split <;> omega
theorem atF_ge (P : Nat → Pl) (n : Nat) (h : Int) : -1 ≤ atF P n h := by unfold atF; split <;> omega
set_option maxHeartbeats 1000000 in
set_option maxRecDepth 100000 in
theorem at31_a (w : World) (b : Nat) (P : Nat → Pl) (n : Nat) (hn : n ≤ 32) (ok : Ok P) (h : TabAt w b P n true) (x : Int) (x0 : 0 ≤ x) (x1 : x < 4294967296) (i : Nat) (hxi : x % 256 = i) (hi : n ≤ i) : Calls Try.prog 31 #[.pointer (some ⟨b, 0, none⟩), .int .u32 x] w fun e w' => e = .returned (.int .i64 (-1)) ∧ Below w.heap.size w w' := by
  have hge : decide ((n : Int) ≤ (i : Int)) = true := decide_eq_true (by omega)
  go_enter Try.func31, Try.ntmps31
  go_wp2_with fail
  refine (parts37 _ x x0 x1).mono ?_
  rintro e w1 ⟨rfl, hb1⟩
  have HB1 : Below w.heap.size w w1 := vbelow_step (by repeat (first | (with_reducible exact Below.refl _ _) | (with_reducible refine vbelow_alloc ?_ _) | (with_reducible refine vbelow_drew ?_) | (with_reducible refine vbelow_drewN ?_ _) | (with_reducible refine vbelow_set ?_ (by first | exact Nat.le_refl _ | (dsimp only; omega) | omega)))) hb1
  have T1 := h.below HB1
  rw [hxi]
  go_wp2_with fail
  refine (row28 _ b P n hn T1).mono ?_
  rintro e w2 ⟨rfl, hb2⟩
  have HB2 : Below w.heap.size w w2 := vbelow_step (by repeat (first | (with_reducible exact Below.refl _ _) | (with_reducible exact HB1) | (with_reducible refine vbelow_alloc ?_ _) | (with_reducible refine vbelow_drew ?_) | (with_reducible refine vbelow_drewN ?_ _) | (with_reducible refine vbelow_set ?_ (by first | exact Nat.le_refl _ | (dsimp only; omega) | omega)))) hb2
  have T2 := h.below HB2
  clear T1 HB1
  go_wp2
  go_ret
  exact ⟨rfl, (by repeat (first | (with_reducible exact Below.refl _ _) | (with_reducible exact HB2) | (with_reducible refine vbelow_alloc ?_ _) | (with_reducible refine vbelow_drew ?_) | (with_reducible refine vbelow_drewN ?_ _) | (with_reducible refine vbelow_set ?_ (by first | exact Nat.le_refl _ | (dsimp only; omega) | omega))))⟩
set_option maxHeartbeats 1000000 in
set_option maxRecDepth 100000 in
theorem at31_b (w : World) (b : Nat) (P : Nat → Pl) (n : Nat) (hn : n ≤ 32) (ok : Ok P) (h : TabAt w b P n true) (x : Int) (x0 : 0 ≤ x) (x1 : x < 4294967296) (i : Nat) (hxi : x % 256 = i) (hi : i < n) (ht : (P i).t = false) : Calls Try.prog 31 #[.pointer (some ⟨b, 0, none⟩), .int .u32 x] w fun e w' => e = .returned (.int .i64 (-1)) ∧ Below w.heap.size w w' := by
  have hgn : decide (n ≤ i) = false := decide_eq_false (by omega)
  have hge : decide ((n : Int) ≤ (i : Int)) = false := decide_eq_false (by omega)
  have hi0 : (0 : Int) ≤ (i : Int) := by omega
  have hi32 : (i : Int) < 32 := by omega
  go_enter Try.func31, Try.ntmps31
  go_wp2_with fail
  refine (parts37 _ x x0 x1).mono ?_
  rintro e w1 ⟨rfl, hb1⟩
  have HB1 : Below w.heap.size w w1 := vbelow_step (by repeat (first | (with_reducible exact Below.refl _ _) | (with_reducible refine vbelow_alloc ?_ _) | (with_reducible refine vbelow_drew ?_) | (with_reducible refine vbelow_drewN ?_ _) | (with_reducible refine vbelow_set ?_ (by first | exact Nat.le_refl _ | (dsimp only; omega) | omega)))) hb1
  have T1 := h.below HB1
  rw [hxi]
  go_wp2_with fail
  refine (row28 _ b P n hn T1).mono ?_
  rintro e w2 ⟨rfl, hb2⟩
  have HB2 : Below w.heap.size w w2 := vbelow_step (by repeat (first | (with_reducible exact Below.refl _ _) | (with_reducible exact HB1) | (with_reducible refine vbelow_alloc ?_ _) | (with_reducible refine vbelow_drew ?_) | (with_reducible refine vbelow_drewN ?_ _) | (with_reducible refine vbelow_set ?_ (by first | exact Nat.le_refl _ | (dsimp only; omega) | omega)))) hb2
  have T2 := h.below HB2
  clear T1 HB1
  have Q1 := T2.t i (by omega)
  rw [ht] at Q1
  go_wp2
  go_ret
  exact ⟨rfl, (by repeat (first | (with_reducible exact Below.refl _ _) | (with_reducible exact HB2) | (with_reducible refine vbelow_alloc ?_ _) | (with_reducible refine vbelow_drew ?_) | (with_reducible refine vbelow_drewN ?_ _) | (with_reducible refine vbelow_set ?_ (by first | exact Nat.le_refl _ | (dsimp only; omega) | omega))))⟩
set_option maxHeartbeats 1000000 in
set_option maxRecDepth 100000 in
theorem at31_c (w : World) (b : Nat) (P : Nat → Pl) (n : Nat) (hn : n ≤ 32) (ok : Ok P) (h : TabAt w b P n true) (x : Int) (x0 : 0 ≤ x) (x1 : x < 4294967296) (i : Nat) (hxi : x % 256 = i) (hi : i < n) (ht : (P i).t = true) (hh : (handleR i (P i).r (P i).g).1 ≠ x) : Calls Try.prog 31 #[.pointer (some ⟨b, 0, none⟩), .int .u32 x] w fun e w' => e = .returned (.int .i64 (-1)) ∧ Below w.heap.size w w' := by
  have hgn : decide (n ≤ i) = false := decide_eq_false (by omega)
  have hge : decide ((n : Int) ≤ (i : Int)) = false := decide_eq_false (by omega)
  have hi0 : (0 : Int) ≤ (i : Int) := by omega
  have hi32 : (i : Int) < 32 := by omega
  have hne : decide ((handleR i (P i).r (P i).g).1 = x) = false := decide_eq_false hh
  have hbe : ((handleR i (P i).r (P i).g).1 == x) = false := beq_eq_false_iff_ne.2 hh
  have hbn : ((handleR i (P i).r (P i).g).1 != x) = true := bne_iff_ne.2 hh
  go_enter Try.func31, Try.ntmps31
  go_wp2_with fail
  refine (parts37 _ x x0 x1).mono ?_
  rintro e w1 ⟨rfl, hb1⟩
  have HB1 : Below w.heap.size w w1 := vbelow_step (by repeat (first | (with_reducible exact Below.refl _ _) | (with_reducible refine vbelow_alloc ?_ _) | (with_reducible refine vbelow_drew ?_) | (with_reducible refine vbelow_drewN ?_ _) | (with_reducible refine vbelow_set ?_ (by first | exact Nat.le_refl _ | (dsimp only; omega) | omega)))) hb1
  have T1 := h.below HB1
  rw [hxi]
  go_wp2_with fail
  refine (row28 _ b P n hn T1).mono ?_
  rintro e w2 ⟨rfl, hb2⟩
  have HB2 : Below w.heap.size w w2 := vbelow_step (by repeat (first | (with_reducible exact Below.refl _ _) | (with_reducible exact HB1) | (with_reducible refine vbelow_alloc ?_ _) | (with_reducible refine vbelow_drew ?_) | (with_reducible refine vbelow_drewN ?_ _) | (with_reducible refine vbelow_set ?_ (by first | exact Nat.le_refl _ | (dsimp only; omega) | omega)))) hb2
  have T2 := h.below HB2
  clear T1 HB1
  have Q1 := T2.t i (by omega)
  rw [ht] at Q1
  go_wp2_with fail
  refine (handle30 _ b P n true i (by omega) T2 (ok.r0 i) (ok.r1 i)).mono ?_
  rintro e w3 ⟨rfl, hb3⟩
  have HB3 : Below w.heap.size w w3 := vbelow_step (by repeat (first | (with_reducible exact Below.refl _ _) | (with_reducible exact HB2) | (with_reducible refine vbelow_alloc ?_ _) | (with_reducible refine vbelow_drew ?_) | (with_reducible refine vbelow_drewN ?_ _) | (with_reducible refine vbelow_set ?_ (by first | exact Nat.le_refl _ | (dsimp only; omega) | omega)))) hb3
  go_wp2
  go_ret
  exact ⟨rfl, (by repeat (first | (with_reducible exact Below.refl _ _) | (with_reducible exact HB3) | (with_reducible refine vbelow_alloc ?_ _) | (with_reducible refine vbelow_drew ?_) | (with_reducible refine vbelow_drewN ?_ _) | (with_reducible refine vbelow_set ?_ (by first | exact Nat.le_refl _ | (dsimp only; omega) | omega))))⟩
set_option maxHeartbeats 1000000 in
set_option maxRecDepth 100000 in
theorem at31_d (w : World) (b : Nat) (P : Nat → Pl) (n : Nat) (hn : n ≤ 32) (ok : Ok P) (h : TabAt w b P n true) (x : Int) (x0 : 0 ≤ x) (x1 : x < 4294967296) (i : Nat) (hxi : x % 256 = i) (hi : i < n) (ht : (P i).t = true) (hh : (handleR i (P i).r (P i).g).1 = x) : Calls Try.prog 31 #[.pointer (some ⟨b, 0, none⟩), .int .u32 x] w fun e w' => e = .returned (.int .i64 i) ∧ Below w.heap.size w w' := by
  have hgn : decide (n ≤ i) = false := decide_eq_false (by omega)
  have hge : decide ((n : Int) ≤ (i : Int)) = false := decide_eq_false (by omega)
  have hi0 : (0 : Int) ≤ (i : Int) := by omega
  have hi32 : (i : Int) < 32 := by omega
  go_enter Try.func31, Try.ntmps31
  go_wp2_with fail
  refine (parts37 _ x x0 x1).mono ?_
  rintro e w1 ⟨rfl, hb1⟩
  have HB1 : Below w.heap.size w w1 := vbelow_step (by repeat (first | (with_reducible exact Below.refl _ _) | (with_reducible refine vbelow_alloc ?_ _) | (with_reducible refine vbelow_drew ?_) | (with_reducible refine vbelow_drewN ?_ _) | (with_reducible refine vbelow_set ?_ (by first | exact Nat.le_refl _ | (dsimp only; omega) | omega)))) hb1
  have T1 := h.below HB1
  rw [hxi]
  go_wp2_with fail
  refine (row28 _ b P n hn T1).mono ?_
  rintro e w2 ⟨rfl, hb2⟩
  have HB2 : Below w.heap.size w w2 := vbelow_step (by repeat (first | (with_reducible exact Below.refl _ _) | (with_reducible exact HB1) | (with_reducible refine vbelow_alloc ?_ _) | (with_reducible refine vbelow_drew ?_) | (with_reducible refine vbelow_drewN ?_ _) | (with_reducible refine vbelow_set ?_ (by first | exact Nat.le_refl _ | (dsimp only; omega) | omega)))) hb2
  have T2 := h.below HB2
  clear T1 HB1
  have Q1 := T2.t i (by omega)
  rw [ht] at Q1
  go_wp2_with fail
  refine (handle30 _ b P n true i (by omega) T2 (ok.r0 i) (ok.r1 i)).mono ?_
  rintro e w3 ⟨rfl, hb3⟩
  have HB3 : Below w.heap.size w w3 := vbelow_step (by repeat (first | (with_reducible exact Below.refl _ _) | (with_reducible exact HB2) | (with_reducible refine vbelow_alloc ?_ _) | (with_reducible refine vbelow_drew ?_) | (with_reducible refine vbelow_drewN ?_ _) | (with_reducible refine vbelow_set ?_ (by first | exact Nat.le_refl _ | (dsimp only; omega) | omega)))) hb3
  go_wp2
  go_ret
  exact ⟨rfl, (by repeat (first | (with_reducible exact Below.refl _ _) | (with_reducible exact HB3) | (with_reducible refine vbelow_alloc ?_ _) | (with_reducible refine vbelow_drew ?_) | (with_reducible refine vbelow_drewN ?_ _) | (with_reducible refine vbelow_set ?_ (by first | exact Nat.le_refl _ | (dsimp only; omega) | omega))))⟩
theorem at31 (w : World) (b : Nat) (P : Nat → Pl) (n : Nat) (hn : n ≤ 32) (ok : Ok P) (h : TabAt w b P n true) (x : Int) (x0 : 0 ≤ x) (x1 : x < 4294967296) :
    Calls Try.prog 31 #[.pointer (some ⟨b, 0, none⟩), .int .u32 x] w fun e w' => e = .returned (.int .i64 (atF P n x)) ∧ Below w.heap.size w w' := by
  have hxi : x % 256 = ((x % 256).toNat : Int) := by omega
  unfold atF
  by_cases hi : (x % 256).toNat < n
  · cases ht : (P (x % 256).toNat).t with
    | false =>
      rw [if_neg (fun e => by have := e.2.1; cases this)]
      exact at31_b w b P n hn ok h x x0 x1 _ hxi hi ht
    | true =>
      by_cases hh : hd P (x % 256).toNat = x
      · rw [if_pos ⟨hi, rfl, hh⟩]
        exact at31_d w b P n hn ok h x x0 x1 _ hxi hi ht hh
      · rw [if_neg (fun e => hh e.2.2)]
        exact at31_c w b P n hn ok h x x0 x1 _ hxi hi ht hh
  · rw [if_neg (fun e => hi e.1)]
    exact at31_a w b P n hn ok h x x0 x1 _ hxi (by omega)
end Go.Proofs.Ytcpaakhmcpeagaa.Q
