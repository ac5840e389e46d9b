/- Layer 13: acts: the function value that act hands back, and what it does; an act by the document. -/
import Derived.Test.YtfjljlhlifnnlaaE2
import Derived.Lib.Hide
namespace Go.Proofs.Ytfjljlhlifnnlaa.Q
open Go.RowKit
set_option linter.unusedVariables false
set_option linter.unusedSimpArgs false

def actR (k q a b c : Int) : Int × Int × Int × Int := if (k == 1) = true then spendR a b c else if (k == 2) = true then backR a b c q else if (k == 3) = true then resetR a b c else if (k == 4) = true then (0, 0, 0, 1) else (a, b, c, 0)

set_option maxHeartbeats 1000000 in
set_option maxRecDepth 100000 in
theorem act21 (k q : Int) (w : World) : Calls Try.prog 21 #[.agg #[.int .i64 k, .int .i64 q]] w fun e w' => e = .returned (.func (.func 35) #[] #[.pointer (some ⟨w.heap.size, 0, none⟩)]) ∧ w' = w.alloc (.cells #[.int .i64 k, .int .i64 q] 41) := by
  go_enter Try.func21, Try.ntmps21
  go_wp2
  go_ret
  exact ⟨rfl, rfl⟩

set_option maxHeartbeats 1000000 in
set_option maxRecDepth 100000 in
theorem act35 (k q a b c r1 r2 r3 r4 : Int) (h : actR k q a b c = (r1, r2, r3, r4)) (w : World) (g : Nat) (hgl : g < w.heap.size) (hg0 : w.cell? ⟨g, 0, none⟩ = some (.int .i64 k)) (hg1 : w.cell? ⟨g, 1, none⟩ = some (.int .i64 q)) :
    Calls Try.prog 35 #[.agg #[.int .i64 a, .int .i64 b, .int .i64 c], .pointer (some ⟨g, 0, none⟩)] w fun e w' => e = .returned (.tuple #[.agg #[.int .i64 r1, .int .i64 r2, .int .i64 r3], .int .i64 r4]) ∧ Below w.heap.size w w' := by
  cases c1 : (k == 1) with
  | true =>
    simp only [actR, c1, if_true, Bool.false_eq_true, if_false] at h
    have H := Lib.hid h
    clear h
    go_enter Try.func35, Try.ntmps35
    go_wp2_with fail
    refine (spend10 a b c _ _ _ _ H.out _).mono ?_
    rintro e w1 ⟨rfl, hb1⟩
    obtain ⟨hc1, hf1⟩ := vbcell hb1
    have hz1 : w.heap.size + 1 + 1 ≤ w1.heap.size := (by have h_ := hb1.size; (try simp only [World.size_alloc, World.size_setCell, World.size_drew, World.heap_drewN] at h_); omega)
    have hc1_0_0 := fun o => hc1 (w.heap.size) o (by (try simp only [World.size_alloc, World.size_setCell, World.size_drew, World.heap_drewN]); omega)
    have hf1_0_0 := fun o => hf1 (w.heap.size) o (by (try simp only [World.size_alloc, World.size_setCell, World.size_drew, World.heap_drewN]); omega)
    have hc1_0_1 := fun o => hc1 (w.heap.size + 1) o (by (try simp only [World.size_alloc, World.size_setCell, World.size_drew, World.heap_drewN]); omega)
    have hf1_0_1 := fun o => hf1 (w.heap.size + 1) o (by (try simp only [World.size_alloc, World.size_setCell, World.size_drew, World.heap_drewN]); omega)
    have HB1 : Below w.heap.size w w1 := vbelow_step (by repeat (first | (with_reducible exact Below.refl _ _) | (with_reducible refine vbelow_alloc ?_ _) | (with_reducible refine vbelow_drew ?_) | (with_reducible refine vbelow_drewN ?_ _) | (with_reducible refine vbelow_set ?_ (by first | exact Nat.le_refl _ | (dsimp only; omega) | omega)))) hb1
    have hc1_o0 := HB1.cell (p := ⟨g, 0, none⟩) hgl
    have hc1_o1 := HB1.cell (p := ⟨g, 1, none⟩) hgl
    clear hc1 hf1 hb1
    have hz1_0_0 : w.heap.size < w1.heap.size := (by omega)
    have hz1_0_1 : w.heap.size + 1 < w1.heap.size := (by omega)
    go_wp2
    refine bodyPost_ret (v := .tuple #[.agg #[.int .i64 r1, .int .i64 r2, .int .i64 r3], .int .i64 r4]) (by simp [results, Try.results35, go_sem, *]) rfl ⟨rfl, (by repeat (first | (with_reducible exact Below.refl _ _) | (with_reducible exact HB1) | (with_reducible refine vbelow_alloc ?_ _) | (with_reducible refine vbelow_drew ?_) | (with_reducible refine vbelow_drewN ?_ _) | (with_reducible refine vbelow_set ?_ (by first | exact Nat.le_refl _ | (dsimp only; omega) | omega))))⟩
  | false =>
    have n1 := c1
    cases c2 : (k == 2) with
    | true =>
      simp only [actR, n1, c2, if_true, Bool.false_eq_true, if_false] at h
      have H := Lib.hid h
      clear h
      go_enter Try.func35, Try.ntmps35
      go_wp2_with fail
      refine (back12 a b c q _ _ _ _ H.out _).mono ?_
      rintro e w1 ⟨rfl, hb1⟩
      obtain ⟨hc1, hf1⟩ := vbcell hb1
      have hz1 : w.heap.size + 1 + 1 ≤ w1.heap.size := (by have h_ := hb1.size; (try simp only [World.size_alloc, World.size_setCell, World.size_drew, World.heap_drewN] at h_); omega)
      have hc1_0_0 := fun o => hc1 (w.heap.size) o (by (try simp only [World.size_alloc, World.size_setCell, World.size_drew, World.heap_drewN]); omega)
      have hf1_0_0 := fun o => hf1 (w.heap.size) o (by (try simp only [World.size_alloc, World.size_setCell, World.size_drew, World.heap_drewN]); omega)
      have hc1_0_1 := fun o => hc1 (w.heap.size + 1) o (by (try simp only [World.size_alloc, World.size_setCell, World.size_drew, World.heap_drewN]); omega)
      have hf1_0_1 := fun o => hf1 (w.heap.size + 1) o (by (try simp only [World.size_alloc, World.size_setCell, World.size_drew, World.heap_drewN]); omega)
      have HB1 : Below w.heap.size w w1 := vbelow_step (by repeat (first | (with_reducible exact Below.refl _ _) | (with_reducible refine vbelow_alloc ?_ _) | (with_reducible refine vbelow_drew ?_) | (with_reducible refine vbelow_drewN ?_ _) | (with_reducible refine vbelow_set ?_ (by first | exact Nat.le_refl _ | (dsimp only; omega) | omega)))) hb1
      have hc1_o0 := HB1.cell (p := ⟨g, 0, none⟩) hgl
      have hc1_o1 := HB1.cell (p := ⟨g, 1, none⟩) hgl
      clear hc1 hf1 hb1
      have hz1_0_0 : w.heap.size < w1.heap.size := (by omega)
      have hz1_0_1 : w.heap.size + 1 < w1.heap.size := (by omega)
      go_wp2
      refine bodyPost_ret (v := .tuple #[.agg #[.int .i64 r1, .int .i64 r2, .int .i64 r3], .int .i64 r4]) (by simp [results, Try.results35, go_sem, *]) rfl ⟨rfl, (by repeat (first | (with_reducible exact Below.refl _ _) | (with_reducible exact HB1) | (with_reducible refine vbelow_alloc ?_ _) | (with_reducible refine vbelow_drew ?_) | (with_reducible refine vbelow_drewN ?_ _) | (with_reducible refine vbelow_set ?_ (by first | exact Nat.le_refl _ | (dsimp only; omega) | omega))))⟩
    | false =>
      have n2 := c2
      cases c3 : (k == 3) with
      | true =>
        simp only [actR, n1, n2, c3, if_true, Bool.false_eq_true, if_false] at h
        have H := Lib.hid h
        clear h
        go_enter Try.func35, Try.ntmps35
        go_wp2_with fail
        refine (reset14 a b c _ _ _ _ H.out _).mono ?_
        rintro e w1 ⟨rfl, hb1⟩
        obtain ⟨hc1, hf1⟩ := vbcell hb1
        have hz1 : w.heap.size + 1 + 1 ≤ w1.heap.size := (by have h_ := hb1.size; (try simp only [World.size_alloc, World.size_setCell, World.size_drew, World.heap_drewN] at h_); omega)
        have hc1_0_0 := fun o => hc1 (w.heap.size) o (by (try simp only [World.size_alloc, World.size_setCell, World.size_drew, World.heap_drewN]); omega)
        have hf1_0_0 := fun o => hf1 (w.heap.size) o (by (try simp only [World.size_alloc, World.size_setCell, World.size_drew, World.heap_drewN]); omega)
        have hc1_0_1 := fun o => hc1 (w.heap.size + 1) o (by (try simp only [World.size_alloc, World.size_setCell, World.size_drew, World.heap_drewN]); omega)
        have hf1_0_1 := fun o => hf1 (w.heap.size + 1) o (by (try simp only [World.size_alloc, World.size_setCell, World.size_drew, World.heap_drewN]); omega)
        have HB1 : Below w.heap.size w w1 := vbelow_step (by repeat (first | (with_reducible exact Below.refl _ _) | (with_reducible refine vbelow_alloc ?_ _) | (with_reducible refine vbelow_drew ?_) | (with_reducible refine vbelow_drewN ?_ _) | (with_reducible refine vbelow_set ?_ (by first | exact Nat.le_refl _ | (dsimp only; omega) | omega)))) hb1
        have hc1_o0 := HB1.cell (p := ⟨g, 0, none⟩) hgl
        have hc1_o1 := HB1.cell (p := ⟨g, 1, none⟩) hgl
        clear hc1 hf1 hb1
        have hz1_0_0 : w.heap.size < w1.heap.size := (by omega)
        have hz1_0_1 : w.heap.size + 1 < w1.heap.size := (by omega)
        go_wp2
        refine bodyPost_ret (v := .tuple #[.agg #[.int .i64 r1, .int .i64 r2, .int .i64 r3], .int .i64 r4]) (by simp [results, Try.results35, go_sem, *]) rfl ⟨rfl, (by repeat (first | (with_reducible exact Below.refl _ _) | (with_reducible exact HB1) | (with_reducible refine vbelow_alloc ?_ _) | (with_reducible refine vbelow_drew ?_) | (with_reducible refine vbelow_drewN ?_ _) | (with_reducible refine vbelow_set ?_ (by first | exact Nat.le_refl _ | (dsimp only; omega) | omega))))⟩
      | false =>
        have n3 := c3
        cases c4 : (k == 4) with
        | true =>
          simp only [actR, n1, n2, n3, c4, if_true, Bool.false_eq_true, if_false] at h
          simp only [Prod.mk.injEq] at h
          obtain ⟨rfl, rfl, rfl, rfl⟩ := h
          go_enter Try.func35, Try.ntmps35
          go_wp2
          refine bodyPost_ret (v := .tuple #[.agg #[.int .i64 0, .int .i64 0, .int .i64 0], .int .i64 1]) (by simp [results, Try.results35, go_sem, *]) rfl ⟨rfl, (by repeat (first | (with_reducible exact Below.refl _ _) | (with_reducible refine vbelow_alloc ?_ _) | (with_reducible refine vbelow_drew ?_) | (with_reducible refine vbelow_drewN ?_ _) | (with_reducible refine vbelow_set ?_ (by first | exact Nat.le_refl _ | (dsimp only; omega) | omega))))⟩
        | false =>
          have n4 := c4
          simp only [actR, n1, n2, n3, n4, if_true, Bool.false_eq_true, if_false] at h
          simp only [Prod.mk.injEq] at h
          obtain ⟨rfl, rfl, rfl, rfl⟩ := h
          go_enter Try.func35, Try.ntmps35
          go_wp2
          refine bodyPost_ret (v := .tuple #[.agg #[.int .i64 a, .int .i64 b, .int .i64 c], .int .i64 0]) (by simp [results, Try.results35, go_sem, *]) rfl ⟨rfl, (by repeat (first | (with_reducible exact Below.refl _ _) | (with_reducible refine vbelow_alloc ?_ _) | (with_reducible refine vbelow_drew ?_) | (with_reducible refine vbelow_drewN ?_ _) | (with_reducible refine vbelow_set ?_ (by first | exact Nat.le_refl _ | (dsimp only; omega) | omega))))⟩

set_option maxHeartbeats 1000000 in
set_option maxRecDepth 100000 in
theorem plain22 (k q a b c r1 r2 r3 r4 : Int) (h : actR k q a b c = (r1, r2, r3, r4)) (w : World) :
    Calls Try.prog 22 #[.agg #[.int .i64 a, .int .i64 b, .int .i64 c], .agg #[.int .i64 k, .int .i64 q]] w fun e w' => e = .returned (.tuple #[.agg #[.int .i64 r1, .int .i64 r2, .int .i64 r3], .int .i64 r4]) ∧ Below w.heap.size w w' := by
  cases c1 : (k == 1) with
  | true =>
    simp only [actR, c1, if_true, Bool.false_eq_true, if_false] at h
    have H := Lib.hid h
    clear h
    go_enter Try.func22, Try.ntmps22
    go_wp2_with fail
    refine (spend11 a b c _ _ _ _ H.out _).mono ?_
    rintro e w1 ⟨rfl, hb1⟩
    obtain ⟨hc1, hf1⟩ := vbcell hb1
    have hz1 : w.heap.size + 1 + 1 + 1 ≤ w1.heap.size := (by have h_ := hb1.size; (try simp only [World.size_alloc, World.size_setCell, World.size_drew, World.heap_drewN] at h_); omega)
    have hc1_0_0 := fun o => hc1 (w.heap.size) o (by (try simp only [World.size_alloc, World.size_setCell, World.size_drew, World.heap_drewN]); omega)
    have hf1_0_0 := fun o => hf1 (w.heap.size) o (by (try simp only [World.size_alloc, World.size_setCell, World.size_drew, World.heap_drewN]); omega)
    have hc1_0_1 := fun o => hc1 (w.heap.size + 1) o (by (try simp only [World.size_alloc, World.size_setCell, World.size_drew, World.heap_drewN]); omega)
    have hf1_0_1 := fun o => hf1 (w.heap.size + 1) o (by (try simp only [World.size_alloc, World.size_setCell, World.size_drew, World.heap_drewN]); omega)
    have hc1_0_2 := fun o => hc1 (w.heap.size + 1 + 1) o (by (try simp only [World.size_alloc, World.size_setCell, World.size_drew, World.heap_drewN]); omega)
    have hf1_0_2 := fun o => hf1 (w.heap.size + 1 + 1) o (by (try simp only [World.size_alloc, World.size_setCell, World.size_drew, World.heap_drewN]); omega)
    have HB1 : Below w.heap.size w w1 := vbelow_step (by repeat (first | (with_reducible exact Below.refl _ _) | (with_reducible refine vbelow_alloc ?_ _) | (with_reducible refine vbelow_drew ?_) | (with_reducible refine vbelow_drewN ?_ _) | (with_reducible refine vbelow_set ?_ (by first | exact Nat.le_refl _ | (dsimp only; omega) | omega)))) hb1
    clear hc1 hf1 hb1
    have hz1_0_0 : w.heap.size < w1.heap.size := (by omega)
    have hz1_0_1 : w.heap.size + 1 < w1.heap.size := (by omega)
    have hz1_0_2 : w.heap.size + 1 + 1 < w1.heap.size := (by omega)
    go_wp2
    refine bodyPost_ret (v := .tuple #[.agg #[.int .i64 r1, .int .i64 r2, .int .i64 r3], .int .i64 r4]) (by simp [results, Try.results22, go_sem, *]) rfl ⟨rfl, (by repeat (first | (with_reducible exact Below.refl _ _) | (with_reducible exact HB1) | (with_reducible refine vbelow_alloc ?_ _) | (with_reducible refine vbelow_drew ?_) | (with_reducible refine vbelow_drewN ?_ _) | (with_reducible refine vbelow_set ?_ (by first | exact Nat.le_refl _ | (dsimp only; omega) | omega))))⟩
  | false =>
    have n1 := c1
    cases c2 : (k == 2) with
    | true =>
      simp only [actR, n1, c2, if_true, Bool.false_eq_true, if_false] at h
      have H := Lib.hid h
      clear h
      go_enter Try.func22, Try.ntmps22
      go_wp2_with fail
      refine (back13 a b c q _ _ _ _ H.out _).mono ?_
      rintro e w1 ⟨rfl, hb1⟩
      obtain ⟨hc1, hf1⟩ := vbcell hb1
      have hz1 : w.heap.size + 1 + 1 + 1 ≤ w1.heap.size := (by have h_ := hb1.size; (try simp only [World.size_alloc, World.size_setCell, World.size_drew, World.heap_drewN] at h_); omega)
      have hc1_0_0 := fun o => hc1 (w.heap.size) o (by (try simp only [World.size_alloc, World.size_setCell, World.size_drew, World.heap_drewN]); omega)
      have hf1_0_0 := fun o => hf1 (w.heap.size) o (by (try simp only [World.size_alloc, World.size_setCell, World.size_drew, World.heap_drewN]); omega)
      have hc1_0_1 := fun o => hc1 (w.heap.size + 1) o (by (try simp only [World.size_alloc, World.size_setCell, World.size_drew, World.heap_drewN]); omega)
      have hf1_0_1 := fun o => hf1 (w.heap.size + 1) o (by (try simp only [World.size_alloc, World.size_setCell, World.size_drew, World.heap_drewN]); omega)
      have hc1_0_2 := fun o => hc1 (w.heap.size + 1 + 1) o (by (try simp only [World.size_alloc, World.size_setCell, World.size_drew, World.heap_drewN]); omega)
      have hf1_0_2 := fun o => hf1 (w.heap.size + 1 + 1) o (by (try simp only [World.size_alloc, World.size_setCell, World.size_drew, World.heap_drewN]); omega)
      have HB1 : Below w.heap.size w w1 := vbelow_step (by repeat (first | (with_reducible exact Below.refl _ _) | (with_reducible refine vbelow_alloc ?_ _) | (with_reducible refine vbelow_drew ?_) | (with_reducible refine vbelow_drewN ?_ _) | (with_reducible refine vbelow_set ?_ (by first | exact Nat.le_refl _ | (dsimp only; omega) | omega)))) hb1
      clear hc1 hf1 hb1
      have hz1_0_0 : w.heap.size < w1.heap.size := (by omega)
      have hz1_0_1 : w.heap.size + 1 < w1.heap.size := (by omega)
      have hz1_0_2 : w.heap.size + 1 + 1 < w1.heap.size := (by omega)
      go_wp2
      refine bodyPost_ret (v := .tuple #[.agg #[.int .i64 r1, .int .i64 r2, .int .i64 r3], .int .i64 r4]) (by simp [results, Try.results22, go_sem, *]) rfl ⟨rfl, (by repeat (first | (with_reducible exact Below.refl _ _) | (with_reducible exact HB1) | (with_reducible refine vbelow_alloc ?_ _) | (with_reducible refine vbelow_drew ?_) | (with_reducible refine vbelow_drewN ?_ _) | (with_reducible refine vbelow_set ?_ (by first | exact Nat.le_refl _ | (dsimp only; omega) | omega))))⟩
    | false =>
      have n2 := c2
      cases c3 : (k == 3) with
      | true =>
        simp only [actR, n1, n2, c3, if_true, Bool.false_eq_true, if_false] at h
        have H := Lib.hid h
        clear h
        go_enter Try.func22, Try.ntmps22
        go_wp2_with fail
        refine (reset15 a b c _ _ _ _ H.out _).mono ?_
        rintro e w1 ⟨rfl, hb1⟩
        obtain ⟨hc1, hf1⟩ := vbcell hb1
        have hz1 : w.heap.size + 1 + 1 + 1 ≤ w1.heap.size := (by have h_ := hb1.size; (try simp only [World.size_alloc, World.size_setCell, World.size_drew, World.heap_drewN] at h_); omega)
        have hc1_0_0 := fun o => hc1 (w.heap.size) o (by (try simp only [World.size_alloc, World.size_setCell, World.size_drew, World.heap_drewN]); omega)
        have hf1_0_0 := fun o => hf1 (w.heap.size) o (by (try simp only [World.size_alloc, World.size_setCell, World.size_drew, World.heap_drewN]); omega)
        have hc1_0_1 := fun o => hc1 (w.heap.size + 1) o (by (try simp only [World.size_alloc, World.size_setCell, World.size_drew, World.heap_drewN]); omega)
        have hf1_0_1 := fun o => hf1 (w.heap.size + 1) o (by (try simp only [World.size_alloc, World.size_setCell, World.size_drew, World.heap_drewN]); omega)
        have hc1_0_2 := fun o => hc1 (w.heap.size + 1 + 1) o (by (try simp only [World.size_alloc, World.size_setCell, World.size_drew, World.heap_drewN]); omega)
        have hf1_0_2 := fun o => hf1 (w.heap.size + 1 + 1) o (by (try simp only [World.size_alloc, World.size_setCell, World.size_drew, World.heap_drewN]); omega)
        have HB1 : Below w.heap.size w w1 := vbelow_step (by repeat (first | (with_reducible exact Below.refl _ _) | (with_reducible refine vbelow_alloc ?_ _) | (with_reducible refine vbelow_drew ?_) | (with_reducible refine vbelow_drewN ?_ _) | (with_reducible refine vbelow_set ?_ (by first | exact Nat.le_refl _ | (dsimp only; omega) | omega)))) hb1
        clear hc1 hf1 hb1
        have hz1_0_0 : w.heap.size < w1.heap.size := (by omega)
        have hz1_0_1 : w.heap.size + 1 < w1.heap.size := (by omega)
        have hz1_0_2 : w.heap.size + 1 + 1 < w1.heap.size := (by omega)
        go_wp2
        refine bodyPost_ret (v := .tuple #[.agg #[.int .i64 r1, .int .i64 r2, .int .i64 r3], .int .i64 r4]) (by simp [results, Try.results22, go_sem, *]) rfl ⟨rfl, (by repeat (first | (with_reducible exact Below.refl _ _) | (with_reducible exact HB1) | (with_reducible refine vbelow_alloc ?_ _) | (with_reducible refine vbelow_drew ?_) | (with_reducible refine vbelow_drewN ?_ _) | (with_reducible refine vbelow_set ?_ (by first | exact Nat.le_refl _ | (dsimp only; omega) | omega))))⟩
      | false =>
        have n3 := c3
        cases c4 : (k == 4) with
        | true =>
          simp only [actR, n1, n2, n3, c4, if_true, Bool.false_eq_true, if_false] at h
          simp only [Prod.mk.injEq] at h
          obtain ⟨rfl, rfl, rfl, rfl⟩ := h
          go_enter Try.func22, Try.ntmps22
          go_wp2
          refine bodyPost_ret (v := .tuple #[.agg #[.int .i64 0, .int .i64 0, .int .i64 0], .int .i64 1]) (by simp [results, Try.results22, go_sem, *]) rfl ⟨rfl, (by repeat (first | (with_reducible exact Below.refl _ _) | (with_reducible refine vbelow_alloc ?_ _) | (with_reducible refine vbelow_drew ?_) | (with_reducible refine vbelow_drewN ?_ _) | (with_reducible refine vbelow_set ?_ (by first | exact Nat.le_refl _ | (dsimp only; omega) | omega))))⟩
        | false =>
          have n4 := c4
          simp only [actR, n1, n2, n3, n4, if_true, Bool.false_eq_true, if_false] at h
          simp only [Prod.mk.injEq] at h
          obtain ⟨rfl, rfl, rfl, rfl⟩ := h
          go_enter Try.func22, Try.ntmps22
          go_wp2
          refine bodyPost_ret (v := .tuple #[.agg #[.int .i64 a, .int .i64 b, .int .i64 c], .int .i64 0]) (by simp [results, Try.results22, go_sem, *]) rfl ⟨rfl, (by repeat (first | (with_reducible exact Below.refl _ _) | (with_reducible refine vbelow_alloc ?_ _) | (with_reducible refine vbelow_drew ?_) | (with_reducible refine vbelow_drewN ?_ _) | (with_reducible refine vbelow_set ?_ (by first | exact Nat.le_refl _ | (dsimp only; omega) | omega))))⟩

end Go.Proofs.Ytfjljlhlifnnlaa.Q
