/- Layer 11: the walk of the law CapabNobody. -/
import Derived.Test.YtcpaakhmcpeagaaC14
namespace Go.Proofs.Ytcpaakhmcpeagaa.Q
open Go.RowKit Go.Proofs.YtcpaakhmcpeagaaW.PrintWords Go.Proofs.YtcpaakhmcpeagaaW.PrintMore
set_option linter.unusedVariables false
set_option linter.unusedSimpArgs false
set_option maxHeartbeats 1000000 in
set_option maxRecDepth 100000 in
theorem nobody8 (w : World) (c r x : Int) (x0 : 0 ≤ x) (x1 : x < 4294967296) : Calls Try.prog 8 #[.agg #[.int .i64 c, .int .u8 r], .int .u32 x] w fun e w' => e = .returned (.bool true) ∧ Below w.heap.size w w' := by
  have hz := zeroT
  have hzs := zcells_size
  have z1 : (w.alloc (.cells #[.int .i64 c, .int .u8 r] 30)).heap.size = w.heap.size + 1 := by rw [World.size_alloc]
  have z2 : ((w.alloc (.cells #[.int .i64 c, .int .u8 r] 30)).alloc (.cells zcells 62)).heap.size = w.heap.size + 1 + 1 := by rw [World.size_alloc, z1]
  have A0 : (((w.alloc (.cells #[.int .i64 c, .int .u8 r] 30)).alloc (.cells zcells 62)).alloc (.cells #[.pointer none, .pointer (some ⟨w.heap.size + 1, 0, none⟩)] 23)).cell? ⟨w.heap.size, 0, none⟩ = some (.int .i64 c) := vcell_alloc (vcell_alloc (vcell_new rfl) _) _
  have A1 : (((w.alloc (.cells #[.int .i64 c, .int .u8 r] 30)).alloc (.cells zcells 62)).alloc (.cells #[.pointer none, .pointer (some ⟨w.heap.size + 1, 0, none⟩)] 23)).cell? ⟨w.heap.size, 1, none⟩ = some (.int .u8 r) := vcell_alloc (vcell_alloc (vcell_new rfl) _) _
  have A2 : TabAt (((w.alloc (.cells #[.int .i64 c, .int .u8 r] 30)).alloc (.cells zcells 62)).alloc (.cells #[.pointer none, .pointer (some ⟨w.heap.size + 1, 0, none⟩)] 23)) (w.heap.size + 1) (newP 0) 0 false := by have h_ := (TabAt.new (w.alloc (.cells #[.int .i64 c, .int .u8 r] 30)) (newP 0) 0 false).alloc (.cells #[.pointer none, .pointer (some ⟨w.heap.size + 1, 0, none⟩)] 23); rw [z1] at h_; exact h_
  have A3 : (((w.alloc (.cells #[.int .i64 c, .int .u8 r] 30)).alloc (.cells zcells 62)).alloc (.cells #[.pointer none, .pointer (some ⟨w.heap.size + 1, 0, none⟩)] 23)).cell? ⟨w.heap.size + 1 + 1, 0, none⟩ = some (.pointer none) := vcell_new' z2.symm rfl
  have A4 : (((w.alloc (.cells #[.int .i64 c, .int .u8 r] 30)).alloc (.cells zcells 62)).alloc (.cells #[.pointer none, .pointer (some ⟨w.heap.size + 1, 0, none⟩)] 23)).cell? ⟨w.heap.size + 1 + 1, 1, none⟩ = some (.pointer (some ⟨w.heap.size + 1, 0, none⟩)) := vcell_new' z2.symm rfl
  have A5 : Below w.heap.size w (((w.alloc (.cells #[.int .i64 c, .int .u8 r] 30)).alloc (.cells zcells 62)).alloc (.cells #[.pointer none, .pointer (some ⟨w.heap.size + 1, 0, none⟩)] 23)) := vbelow_alloc (vbelow_alloc (vbelow_alloc (Below.refl _ _) _) _) _
  clear z1 z2
  go_enter Try.func8, Try.ntmps8
  go_wp2
  go_loopw [19] (fun v19 wr => ∃ k : Nat, k ≤ 2 ∧ v19 = .int .i64 k ∧ wr.cell? ⟨w.heap.size, 0, none⟩ = some (.int .i64 c) ∧ wr.cell? ⟨w.heap.size, 1, none⟩ = some (.int .u8 r) ∧ TabAt wr (w.heap.size + 1) (newP 0) 0 false ∧ wr.cell? ⟨w.heap.size + 1 + 1, 0, none⟩ = some (.pointer none) ∧ wr.cell? ⟨w.heap.size + 1 + 1, 1, none⟩ = some (.pointer (some ⟨w.heap.size + 1, 0, none⟩)) ∧ Below w.heap.size w wr) (fun v19 _ => 3 - (intOf v19).toNat)
  case atStart => exact ⟨0, Nat.zero_le _, rfl, A0, A1, A2, A3, A4, A5⟩
  case round =>
    clear A0 A1 A2 A3 A4 A5
    obtain ⟨k, hk, rfl, Q0, Q1, TW, R0, R1, HW⟩ := hrel
    rcases (show k = 0 ∨ k = 1 ∨ k = 2 by omega) with rfl | rfl | rfl
    · go_wp2_with fail
      refine (mint11_nil _  c r).mono ?_
      rintro e w1 ⟨rfl, hb1⟩
      have H1 : Below wr.heap.size wr w1 := vbelow_step (by repeat (first | (with_reducible exact Below.refl _ _) | (with_reducible exact Below.refl _ _) | (with_reducible refine vbelow_alloc ?_ _) | (with_reducible refine vbelow_drew ?_) | (with_reducible refine vbelow_set ?_ (by first | exact Nat.le_refl _ | (dsimp only; omega) | omega)))) hb1
      go_wp2_with fail
      refine (find13_nil _  x x0 x1).mono ?_
      rintro e w2 ⟨rfl, hb2⟩
      have H2 : Below wr.heap.size wr w2 := vbelow_step (by repeat (first | (with_reducible exact Below.refl _ _) | (with_reducible exact H1) | (with_reducible refine vbelow_alloc ?_ _) | (with_reducible refine vbelow_drew ?_) | (with_reducible refine vbelow_set ?_ (by first | exact Nat.le_refl _ | (dsimp only; omega) | omega)))) hb2
      go_wp2_with fail
      refine (with25_nil _  x 0 x0 x1).mono ?_
      rintro e w3 ⟨rfl, hb3⟩
      have H3 : Below wr.heap.size wr w3 := vbelow_step (by repeat (first | (with_reducible exact Below.refl _ _) | (with_reducible exact H2) | (with_reducible refine vbelow_alloc ?_ _) | (with_reducible refine vbelow_drew ?_) | (with_reducible refine vbelow_set ?_ (by first | exact Nat.le_refl _ | (dsimp only; omega) | omega)))) hb3
      have K0 : w3.cell? ⟨w2.heap.size, 0, none⟩ = some (.int .i64 0) := vcell hb3 (vcell_new rfl)
      have K1 : w3.cell? ⟨w2.heap.size, 1, none⟩ = some (.int .u8 0) := vcell hb3 (vcell_new rfl)
      have hz3 : w2.heap.size < w3.heap.size := (by have h_ := hb3.size; (try simp only [World.size_alloc] at h_); omega)
      go_wp2_with fail
      refine (drop12_nil _  x).mono ?_
      rintro e w4 ⟨rfl, hb4⟩
      have H4 : Below wr.heap.size wr w4 := vbelow_step (by repeat (first | (with_reducible exact Below.refl _ _) | (with_reducible exact H3) | (with_reducible refine vbelow_alloc ?_ _) | (with_reducible refine vbelow_drew ?_) | (with_reducible refine vbelow_set ?_ (by first | exact Nat.le_refl _ | (dsimp only; omega) | omega)))) hb4
      have K0 := vcell hb4 (vcell_alloc K0 _)
      have K1 := vcell hb4 (vcell_alloc K1 _)
      have L0 : w4.cell? ⟨w3.heap.size, 0, none⟩ = some (.int .i64 0) := vcell hb4 (vcell_new rfl)
      have L1 : w4.cell? ⟨w3.heap.size, 1, none⟩ = some (.int .u8 0) := vcell hb4 (vcell_new rfl)
      have hz4 : w3.heap.size < w4.heap.size := (by have h_ := hb4.size; (try simp only [World.size_alloc] at h_); omega)
      go_wp2_with fail
      refine (live17_nil _ ).mono ?_
      rintro e w5 ⟨rfl, hb5⟩
      have H5 : Below wr.heap.size wr w5 := vbelow_step (by repeat (first | (with_reducible exact Below.refl _ _) | (with_reducible exact H4) | (with_reducible refine vbelow_alloc ?_ _) | (with_reducible refine vbelow_drew ?_) | (with_reducible refine vbelow_set ?_ (by first | exact Nat.le_refl _ | (dsimp only; omega) | omega)))) hb5
      go_wp2_with fail
      refine (left20_nil _ ).mono ?_
      rintro e w6 ⟨rfl, hb6⟩
      have H6 : Below wr.heap.size wr w6 := vbelow_step (by repeat (first | (with_reducible exact Below.refl _ _) | (with_reducible exact H5) | (with_reducible refine vbelow_alloc ?_ _) | (with_reducible refine vbelow_drew ?_) | (with_reducible refine vbelow_set ?_ (by first | exact Nat.le_refl _ | (dsimp only; omega) | omega)))) hb6
      go_wp2
      go_roundw
      case rel => exact ⟨1, by omega, by go_num, vcell H6 Q0, vcell H6 Q1, TW.below H6, vcell H6 R0, vcell H6 R1, vbelow_step HW H6⟩
      case measure => simp [intOf]
    · go_wp2_with fail
      refine (mint11_un _ _ _ _ (TW.below (by repeat (first | (with_reducible exact Below.refl _ _) | (with_reducible exact Below.refl _ _) | (with_reducible refine vbelow_alloc ?_ _) | (with_reducible refine vbelow_drew ?_) | (with_reducible refine vbelow_set ?_ (by first | exact Nat.le_refl _ | (dsimp only; omega) | omega))))) c r).mono ?_
      rintro e w1 ⟨rfl, hb1⟩
      have H1 : Below wr.heap.size wr w1 := vbelow_step (by repeat (first | (with_reducible exact Below.refl _ _) | (with_reducible exact Below.refl _ _) | (with_reducible refine vbelow_alloc ?_ _) | (with_reducible refine vbelow_drew ?_) | (with_reducible refine vbelow_set ?_ (by first | exact Nat.le_refl _ | (dsimp only; omega) | omega)))) hb1
      go_wp2_with fail
      refine (find13_un _ _ _ _ (TW.below (by repeat (first | (with_reducible exact Below.refl _ _) | (with_reducible exact H1) | (with_reducible refine vbelow_alloc ?_ _) | (with_reducible refine vbelow_drew ?_) | (with_reducible refine vbelow_set ?_ (by first | exact Nat.le_refl _ | (dsimp only; omega) | omega))))) x x0 x1).mono ?_
      rintro e w2 ⟨rfl, hb2⟩
      have H2 : Below wr.heap.size wr w2 := vbelow_step (by repeat (first | (with_reducible exact Below.refl _ _) | (with_reducible exact H1) | (with_reducible refine vbelow_alloc ?_ _) | (with_reducible refine vbelow_drew ?_) | (with_reducible refine vbelow_set ?_ (by first | exact Nat.le_refl _ | (dsimp only; omega) | omega)))) hb2
      go_wp2_with fail
      refine (with25_un _ _ _ _ (TW.below (by repeat (first | (with_reducible exact Below.refl _ _) | (with_reducible exact H2) | (with_reducible refine vbelow_alloc ?_ _) | (with_reducible refine vbelow_drew ?_) | (with_reducible refine vbelow_set ?_ (by first | exact Nat.le_refl _ | (dsimp only; omega) | omega))))) x 0 x0 x1).mono ?_
      rintro e w3 ⟨rfl, hb3⟩
      have H3 : Below wr.heap.size wr w3 := vbelow_step (by repeat (first | (with_reducible exact Below.refl _ _) | (with_reducible exact H2) | (with_reducible refine vbelow_alloc ?_ _) | (with_reducible refine vbelow_drew ?_) | (with_reducible refine vbelow_set ?_ (by first | exact Nat.le_refl _ | (dsimp only; omega) | omega)))) hb3
      have K0 : w3.cell? ⟨w2.heap.size, 0, none⟩ = some (.int .i64 0) := vcell hb3 (vcell_new rfl)
      have K1 : w3.cell? ⟨w2.heap.size, 1, none⟩ = some (.int .u8 0) := vcell hb3 (vcell_new rfl)
      have hz3 : w2.heap.size < w3.heap.size := (by have h_ := hb3.size; (try simp only [World.size_alloc] at h_); omega)
      go_wp2_with fail
      refine (drop12_un _ _ _ _ (TW.below (by repeat (first | (with_reducible exact Below.refl _ _) | (with_reducible exact H3) | (with_reducible refine vbelow_alloc ?_ _) | (with_reducible refine vbelow_drew ?_) | (with_reducible refine vbelow_set ?_ (by first | exact Nat.le_refl _ | (dsimp only; omega) | omega))))) x).mono ?_
      rintro e w4 ⟨rfl, hb4⟩
      have H4 : Below wr.heap.size wr w4 := vbelow_step (by repeat (first | (with_reducible exact Below.refl _ _) | (with_reducible exact H3) | (with_reducible refine vbelow_alloc ?_ _) | (with_reducible refine vbelow_drew ?_) | (with_reducible refine vbelow_set ?_ (by first | exact Nat.le_refl _ | (dsimp only; omega) | omega)))) hb4
      have K0 := vcell hb4 (vcell_alloc K0 _)
      have K1 := vcell hb4 (vcell_alloc K1 _)
      have L0 : w4.cell? ⟨w3.heap.size, 0, none⟩ = some (.int .i64 0) := vcell hb4 (vcell_new rfl)
      have L1 : w4.cell? ⟨w3.heap.size, 1, none⟩ = some (.int .u8 0) := vcell hb4 (vcell_new rfl)
      have hz4 : w3.heap.size < w4.heap.size := (by have h_ := hb4.size; (try simp only [World.size_alloc] at h_); omega)
      go_wp2_with fail
      refine (live17_un _ _ _ _ (TW.below (by repeat (first | (with_reducible exact Below.refl _ _) | (with_reducible exact H4) | (with_reducible refine vbelow_alloc ?_ _) | (with_reducible refine vbelow_drew ?_) | (with_reducible refine vbelow_set ?_ (by first | exact Nat.le_refl _ | (dsimp only; omega) | omega)))))).mono ?_
      rintro e w5 ⟨rfl, hb5⟩
      have H5 : Below wr.heap.size wr w5 := vbelow_step (by repeat (first | (with_reducible exact Below.refl _ _) | (with_reducible exact H4) | (with_reducible refine vbelow_alloc ?_ _) | (with_reducible refine vbelow_drew ?_) | (with_reducible refine vbelow_set ?_ (by first | exact Nat.le_refl _ | (dsimp only; omega) | omega)))) hb5
      go_wp2_with fail
      refine (left20_un _ _ _ _ (TW.below (by repeat (first | (with_reducible exact Below.refl _ _) | (with_reducible exact H5) | (with_reducible refine vbelow_alloc ?_ _) | (with_reducible refine vbelow_drew ?_) | (with_reducible refine vbelow_set ?_ (by first | exact Nat.le_refl _ | (dsimp only; omega) | omega)))))).mono ?_
      rintro e w6 ⟨rfl, hb6⟩
      have H6 : Below wr.heap.size wr w6 := vbelow_step (by repeat (first | (with_reducible exact Below.refl _ _) | (with_reducible exact H5) | (with_reducible refine vbelow_alloc ?_ _) | (with_reducible refine vbelow_drew ?_) | (with_reducible refine vbelow_set ?_ (by first | exact Nat.le_refl _ | (dsimp only; omega) | omega)))) hb6
      go_wp2
      go_roundw
      case rel => exact ⟨2, by omega, by go_num, vcell H6 Q0, vcell H6 Q1, TW.below H6, vcell H6 R0, vcell H6 R1, vbelow_step HW H6⟩
      case measure => simp [intOf]
    · go_wp2_with fail
      refine (alive10 _).mono ?_
      rintro e w1 ⟨rfl, hb1⟩
      go_wp2
      go_ret
      exact ⟨rfl, vbelow_step HW hb1⟩
end Go.Proofs.Ytcpaakhmcpeagaa.Q
