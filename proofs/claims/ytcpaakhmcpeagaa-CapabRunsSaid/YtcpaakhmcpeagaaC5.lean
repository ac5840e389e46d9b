/- Layer 11: a handle dies, a handle is made. -/
import Derived.Test.YtcpaakhmcpeagaaC6
namespace Go.Proofs.Ytcpaakhmcpeagaa.Q
open Go.RowKit Go.Proofs.YtcpaakhmcpeagaaW.PrintWords Go.Proofs.YtcpaakhmcpeagaaW.PrintMore
set_option linter.unusedVariables false
set_option linter.unusedSimpArgs false
theorem TabAt.set4 {W : World} {b : Nat} {P : Nat → Pl} {n : Int} {m : Bool} (h : TabAt W b P n m) (i : Nat) (hi : i < 32) (g : Int) (t : Bool) (c r : Int) :
    TabAt ((((W.setCell ⟨b, i * 4, none⟩ (.int .i64 g)).setCell ⟨b, i * 4 + 1, none⟩ (.bool t)).setCell ⟨b, i * 4 + 2, none⟩ (.int .i64 c)).setCell ⟨b, i * 4 + 3, none⟩ (.int .u8 r)) b (upd P i ⟨g, t, c, r⟩) n m := by
  have h0 := h.set i 0 (.int .i64 g) ⟨g, (P i).t, (P i).c, (P i).r⟩ hi (by omega) rfl
  have h1 := h0.set i 1 (.bool t) ⟨g, t, (P i).c, (P i).r⟩ hi (by omega) (by rw [upd_same]; rfl)
  have h2 := h1.set i 2 (.int .i64 c) ⟨g, t, c, (P i).r⟩ hi (by omega) (by rw [upd_same]; rfl)
  have h3 := h2.set i 3 (.int .u8 r) ⟨g, t, c, r⟩ hi (by omega) (by rw [upd_same]; rfl)
  rw [upd_upd, upd_upd, upd_upd] at h3
  exact h3
theorem TabAt.set3 {W : World} {b : Nat} {P : Nat → Pl} {n : Int} {m : Bool} (h : TabAt W b P n m) (i : Nat) (hi : i < 32) (t : Bool) (c r : Int) :
    TabAt (((W.setCell ⟨b, i * 4 + 1, none⟩ (.bool t)).setCell ⟨b, i * 4 + 2, none⟩ (.int .i64 c)).setCell ⟨b, i * 4 + 2 + 1, none⟩ (.int .u8 r)) b (upd P i ⟨(P i).g, t, c, r⟩) n m := by
  have h1 := h.set i 1 (.bool t) ⟨(P i).g, t, (P i).c, (P i).r⟩ hi (by omega) rfl
  have h2 := h1.set i 2 (.int .i64 c) ⟨(P i).g, t, c, (P i).r⟩ hi (by omega) (by rw [upd_same]; rfl)
  have h3 := h2.set i 3 (.int .u8 r) ⟨(P i).g, t, c, r⟩ hi (by omega) (by rw [upd_same]; rfl)
  rw [upd_upd, upd_upd] at h3
  exact h3
theorem Only.set4 {b : Nat} {W W' : World} (h : Only b W W') (o1 o2 o3 o4 : Nat) (v1 v2 v3 v4 : Value) : Only b W ((((W'.setCell ⟨b, o1, none⟩ v1).setCell ⟨b, o2, none⟩ v2).setCell ⟨b, o3, none⟩ v3).setCell ⟨b, o4, none⟩ v4) := (((h.set o1 v1).set o2 v2).set o3 v3).set o4 v4
set_option maxHeartbeats 1000000 in
set_option maxRecDepth 100000 in
theorem drop12_a (w : World) (b : Nat) (P : Nat → Pl) (n : Nat) (hn : n ≤ 32) (ok : Ok P) (h : TabAt w b P n true) (x : Int) (x0 : 0 ≤ x) (x1 : x < 4294967296) (i : Nat) (hin : i < n) (hi : atF P n x = i) : Calls Try.prog 12 #[.pointer (some ⟨b, 0, none⟩), .int .u32 x] w fun e w' => e = .returned (.int .i64 0) ∧ TabAt w' b (upd P i ⟨(P i).g + 1, false, 0, 0⟩) n true ∧ Only b w w' := by
  have Qm := h.made
  go_enter Try.func12, Try.ntmps12
  go_wp2_with fail
  refine (at31 _ b P n hn ok h x x0 x1).mono ?_
  rw [hi]
  rintro e w1 ⟨rfl, hb1⟩
  have T1 := h.below hb1
  have Q0 := T1.g i (by omega)
  have Q1 := T1.t i (by omega)
  have Q2 := T1.c i (by omega)
  have Q3 := T1.r i (by omega)
  have hi32 : (i : Int) < 32 := by omega
  have hi0 : (0 : Int) ≤ (i : Int) := by omega
  have F0 := T1.frozen (i * 4)
  have F1 := T1.frozen (i * 4 + 1)
  have F2 := T1.frozen (i * 4 + 2)
  have F3 := T1.frozen (i * 4 + 3)
  have hw : wrap64 ((P i).g + 1) = (P i).g + 1 := w64 (by have := ok.g0 i; omega) (by have := ok.g1 i; omega)
  go_wp2
  go_region
  go_wp2
  go_ret
  exact ⟨rfl, (T1.set4 i (by omega) _ _ _ _).drew, ((Only.of hb1).set4 _ _ _ _ _ _ _ _).drew⟩
set_option maxHeartbeats 1000000 in
set_option maxRecDepth 100000 in
theorem drop12_b (w : World) (b : Nat) (P : Nat → Pl) (n : Nat) (hn : n ≤ 32) (ok : Ok P) (h : TabAt w b P n true) (x : Int) (x0 : 0 ≤ x) (x1 : x < 4294967296) (hi : atF P n x = -1) : Calls Try.prog 12 #[.pointer (some ⟨b, 0, none⟩), .int .u32 x] w fun e w' => e = .returned (.int .i64 111) ∧ Below w.heap.size w w' := by
  have Qm := h.made
  go_enter Try.func12, Try.ntmps12
  go_wp2_with fail
  refine (at31 _ b P n hn ok h x x0 x1).mono ?_
  rw [hi]
  rintro e w1 ⟨rfl, hb1⟩
  go_wp2
  go_ret
  exact ⟨rfl, hb1⟩
set_option maxHeartbeats 1000000 in
set_option maxRecDepth 100000 in
theorem mint11_z (w : World) (b : Nat) (P : Nat → Pl) (n : Nat) (hn : n ≤ 32) (ok : Ok P) (h : TabAt w b P n true) (c r : Int) (hr : r = 0) : Calls Try.prog 11 #[.pointer (some ⟨b, 0, none⟩), .agg #[.int .i64 c, .int .u8 r]] w fun e w' => e = .returned (.tuple #[.int .u32 0, .int .i64 1]) ∧ Below w.heap.size w w' := by
  subst hr
  have T0 := h.alloc (.cells #[.int .i64 c, .int .u8 0] 30)
  have Qm := T0.made
  go_enter Try.func11, Try.ntmps11
  go_wp2
  go_ret2
  exact ⟨rfl, (by repeat (first | (with_reducible exact Below.refl _ _) | (with_reducible refine vbelow_alloc ?_ _) | (with_reducible refine vbelow_drew ?_) | (with_reducible refine vbelow_drewN ?_ _) | (with_reducible refine vbelow_set ?_ (by first | exact Nat.le_refl _ | (dsimp only; omega) | omega))))⟩
set_option maxHeartbeats 1000000 in
set_option maxRecDepth 100000 in
theorem mint11_f (w : World) (b : Nat) (P : Nat → Pl) (n : Nat) (hn : n ≤ 32) (ok : Ok P) (h : TabAt w b P n true) (c r : Int) (hr : r ≠ 0) (hf : ∀ k, k < n → opn (P k) = false) : Calls Try.prog 11 #[.pointer (some ⟨b, 0, none⟩), .agg #[.int .i64 c, .int .u8 r]] w fun e w' => e = .returned (.tuple #[.int .u32 0, .int .i64 110]) ∧ Below w.heap.size w w' := by
  have T0 := h.alloc (.cells #[.int .i64 c, .int .u8 r] 30)
  have Qm := T0.made
  have hrd : decide (r = 0) = false := decide_eq_false hr
  have hrb : (r == 0) = false := beq_eq_false_iff_ne.2 hr
  go_enter Try.func11, Try.ntmps11
  go_wp2_with fail
  refine (row28 _ b P n hn T0).mono ?_
  rintro e w1 ⟨rfl, hb1⟩
  obtain ⟨hc1, hf1⟩ := vbcell hb1
  have hz1 : w.heap.size < w1.heap.size := (by have h_ := hb1.size; (try simp only [World.size_alloc] at h_); omega)
  have hc1_0 := fun o => hc1 w.heap.size o (by (try simp only [World.size_alloc]); omega)
  have hf1_0 := fun o => hf1 w.heap.size o (by (try simp only [World.size_alloc]); omega)
  have HB1 : Below w.heap.size w w1 := vbelow_step (vbelow_alloc (Below.refl _ _) _) hb1
  have T1 := h.below HB1
  clear hc1 hf1 hb1 T0 Qm
  have K0 : w1.cell? ⟨w.heap.size, 0, none⟩ = some (.int .i64 c) := by simp [go_sem, *]
  have K1 : w1.cell? ⟨w.heap.size, 1, none⟩ = some (.int .u8 r) := by simp [go_sem, *]
  go_wp2_with fail
  refine (idx27_b _ b P n hn T1 hf).mono ?_
  rintro e w2 ⟨rfl, hb2⟩
  have HB2 : Below w.heap.size w w2 := vbelow_step HB1 hb2
  have T2 := h.below HB2
  have L0 := vcell hb2 K0
  have L1 := vcell hb2 K1
  have hz2 : w.heap.size < w2.heap.size := Nat.lt_of_lt_of_le hz1 hb2.size
  clear hc1_0 hf1_0 K0 K1
  go_wp2
  go_ret2
  exact ⟨rfl, HB2⟩
set_option maxHeartbeats 1000000 in
set_option maxRecDepth 100000 in
theorem mint11_a (w : World) (b : Nat) (P : Nat → Pl) (n : Nat) (hn : n ≤ 32) (ok : Ok P) (h : TabAt w b P n true) (c r : Int) (hr : r ≠ 0) (hr0 : 0 ≤ r) (hr1 : r ≤ 255) (i : Nat) (hin : i < n) (hf : ∀ k, k < i → opn (P k) = false) (ht : opn (P i) = true) : Calls Try.prog 11 #[.pointer (some ⟨b, 0, none⟩), .agg #[.int .i64 c, .int .u8 r]] w fun e w' => e = .returned (.tuple #[.int .u32 (handleR i r (P i).g).1, .int .i64 0]) ∧ TabAt w' b (upd P i ⟨(P i).g, true, c, r⟩) n true ∧ Only b w w' := by
  have T0 := h.alloc (.cells #[.int .i64 c, .int .u8 r] 30)
  have Qm := T0.made
  have hrd : decide (r = 0) = false := decide_eq_false hr
  have hrb : (r == 0) = false := beq_eq_false_iff_ne.2 hr
  go_enter Try.func11, Try.ntmps11
  go_wp2_with fail
  refine (row28 _ b P n hn T0).mono ?_
  rintro e w1 ⟨rfl, hb1⟩
  obtain ⟨hc1, hf1⟩ := vbcell hb1
  have hz1 : w.heap.size < w1.heap.size := (by have h_ := hb1.size; (try simp only [World.size_alloc] at h_); omega)
  have hc1_0 := fun o => hc1 w.heap.size o (by (try simp only [World.size_alloc]); omega)
  have hf1_0 := fun o => hf1 w.heap.size o (by (try simp only [World.size_alloc]); omega)
  have HB1 : Below w.heap.size w w1 := vbelow_step (vbelow_alloc (Below.refl _ _) _) hb1
  have T1 := h.below HB1
  clear hc1 hf1 hb1 T0 Qm
  have K0 : w1.cell? ⟨w.heap.size, 0, none⟩ = some (.int .i64 c) := by simp [go_sem, *]
  have K1 : w1.cell? ⟨w.heap.size, 1, none⟩ = some (.int .u8 r) := by simp [go_sem, *]
  go_wp2_with fail
  refine (idx27_a _ b P n hn T1 i hin hf ht).mono ?_
  rintro e w2 ⟨rfl, hb2⟩
  have HB2 : Below w.heap.size w w2 := vbelow_step HB1 hb2
  have T2 := h.below HB2
  have L0 := vcell hb2 K0
  have L1 := vcell hb2 K1
  have hz2 : w.heap.size < w2.heap.size := Nat.lt_of_lt_of_le hz1 hb2.size
  clear hc1_0 hf1_0 K0 K1
  have hne : b ≠ w.heap.size := Nat.ne_of_lt h.lt
  have Q0 := T2.g i (by omega)
  have Q1 := T2.t i (by omega)
  have Q2 := T2.c i (by omega)
  have Q3 := T2.r i (by omega)
  have hi32 : (i : Int) < 32 := by omega
  have hi0 : (0 : Int) ≤ (i : Int) := by omega
  have F0 := T2.frozen (i * 4)
  have F1 := T2.frozen (i * 4 + 1)
  have F2 := T2.frozen (i * 4 + 2)
  have F3 := T2.frozen (i * 4 + 3)
  go_wp2
  go_region
  obtain ⟨W3, hW3⟩ : ∃ W3, W3 = (((w2.setCell ⟨b, i * 4 + 1, none⟩ (.bool true)).setCell ⟨b, i * 4 + 2, none⟩ (.int .i64 c)).setCell ⟨b, i * 4 + 2 + 1, none⟩ (.int .u8 r)).drew := ⟨_, rfl⟩
  rw [← hW3]
  have T3 : TabAt W3 b (upd P i ⟨(P i).g, true, c, r⟩) n true := by rw [hW3]; exact (T2.set3 i (by omega) true c r).drew
  have O3 : Only b w W3 := by rw [hW3]; exact ((((Only.of HB2).set _ _).set _ _).set _ _).drew
  clear hW3 Q0 Q1 Q2 Q3 F0 F1 F2 F3 T2 L0 L1
  go_wp2_with fail
  refine (handle30 _ b _ n true i (by omega) T3 (by rw [upd_same]; exact hr0) (by rw [upd_same]; exact hr1)).mono ?_
  rw [upd_same]
  rintro e w4 ⟨rfl, hb4⟩
  go_wp2
  go_ret2
  exact ⟨rfl, T3.below hb4, O3.next hb4⟩
end Go.Proofs.Ytcpaakhmcpeagaa.Q
