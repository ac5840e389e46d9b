/- Layer 13: the walk of the law CreditBounded: whatever is spent, given back and reset, what is left and what is spent are together the room. -/
import Derived.Test.YtfjljlhlifnnlaaE5
import Derived.Outline
import Derived.Deep.DeepCutAuto
import Derived.Deep.RegionHeld3
namespace Go.Proofs.Ytfjljlhlifnnlaa.Q
open Go.RowKit
set_option linter.unusedVariables false
set_option linter.unusedSimpArgs false
def SliceOps (w : World) (A : Option Addr) (n : Nat) (kf qf : Nat → Int) : Prop :=
  0 < n → ∃ ad, A = some ad ∧ ∀ i, i < n → w.cell? (ad.add (i * 2)) = some (.int .i64 (kf i)) ∧ w.cell? ⟨(ad.add (i * 2)).block, (ad.add (i * 2)).off + 1, none⟩ = some (.int .i64 (qf i))
theorem actR_keeps {k q room y z r1 r2 r3 r4 : Int} (hm : accMay room y z = true) (h : actR k q room y z = (r1, r2, r3, r4)) (h0 : (r4 == 0) = true) : r1 = room ∧ accMay room r2 r3 = true := by
  obtain ⟨q1, q2, q3, q4, q5, q6⟩ := accMay_yes hm
  have e0 : r4 = 0 := by simpa using h0
  subst e0
  unfold actR spendR backR resetR at h
  simp only [hm, if_true] at h
  have key : ∀ y' z' : Int, 0 ≤ y' → y' ≤ room → 0 ≤ z' → z' ≤ 1099511627776 → accMay room y' z' = true := by
    intro y' z' a b c d
    simp only [accMay, Bool.and_eq_true, decide_eq_true_eq]
    omega
  repeat' split at h
  all_goals simp only [Prod.mk.injEq] at h
  all_goals obtain ⟨h1, h2, h3, h4⟩ := h
  all_goals simp only [bne_iff_ne, beq_iff_eq, ne_eq] at *
  all_goals first | (exfalso; omega) | (subst h1 h2 h3; exact ⟨rfl, key _ _ (by omega) (by omega) (by omega) (by omega)⟩)
set_option maxHeartbeats 1000000 in
set_option maxRecDepth 100000 in
theorem bounded4 (room : Int) (A : Option Addr) (n c : Nat) (kf qf : Nat → Int) (hn : n ≤ 9223372036854775807) (w : World) (hA : SliceOps w A n kf qf) (hm : accMay room 0 0 = true) :
    Calls Try.prog 4 #[.int .i64 room, .slice A n c] w fun e w' => e = .returned (.bool true) ∧ Below w.heap.size w w' := by
  obtain ⟨q1, q2, q3, q4, q5, q6⟩ := accMay_yes hm
  have Hm := Lib.hid hm; clear hm
  have HA := Lib.hid hA; clear hA
  go_enter Try.func4, Try.ntmps4
  go_wp2_with fail
  refine (open8_yes room _ Hm.out).mono ?_
  rintro e w1 ⟨rfl, hb1⟩
  have HB1 : Below w.heap.size w w1 := hb1
  clear hb1
  go_wp2_with fail
  go_loopw [7] (fun i wr => ∃ (k : Nat) (y z : Int), k ≤ n ∧ i = .int .i64 k ∧ accMay room y z = true ∧ wr.cell? ⟨w1.heap.size, 0, none⟩ = some (.int .i64 room) ∧ wr.cell? ⟨w1.heap.size, 1, none⟩ = some (.int .i64 y) ∧ wr.cell? ⟨w1.heap.size, 2, none⟩ = some (.int .i64 z) ∧ wr.frozen? ⟨w1.heap.size, 0, none⟩ = false ∧ wr.frozen? ⟨w1.heap.size, 1, none⟩ = false ∧ wr.frozen? ⟨w1.heap.size, 2, none⟩ = false ∧ w1.heap.size < wr.heap.size ∧ Below w.heap.size w wr)
    (fun i _ => n - (intOf i).toNat)
  case atStart =>
    refine ⟨0, 0, 0, by omega, rfl, Hm.out, by simp, by simp, by simp, by simp, by simp, by simp, by simp, ?_⟩
    exact vbelow_alloc HB1 _
  case round =>
    obtain ⟨k, y, z, hk, rfl, hy, g0, g1, g2, f0, f1, f2, hsz, HBr⟩ := hrel
    have Hy := Lib.hid hy; clear hy
    by_cases hlt : k < n
    · by_cases h80 : k < 80
      · obtain ⟨ad, rfl, hcell⟩ := HA.out (by omega)
        obtain ⟨c0, c1⟩ := hcell k hlt
        clear hcell
        have c0' := vcell HBr c0
        have c1' := vcell HBr c1
        clear c0 c1
        have hk1 : decide (k < n) = true := decide_eq_true hlt
        obtain ⟨r1, r2, r3, r4, hR⟩ : ∃ x1 x2 x3 x4, actR (kf k) (qf k) room y z = (x1, x2, x3, x4) := ⟨_, _, _, _, rfl⟩
        have HR := Lib.hid hR
        clear hR
        have hbl := World.block_lt_of_cell? _ _ c0'
        have l2 : ∀ m : Nat, m < m + 1 + 1 := fun m => by omega
        go_upto_region 7 with fail
        go_cut [8, 9] (fun s8 s9 wx => ∃ g : Nat, s8 = .pointer (some ⟨g, 0, none⟩) ∧ s9 = .int .i64 r4 ∧ wx.cell? ⟨g, 0, none⟩ = some (.int .i64 r1) ∧ wx.cell? ⟨g, 1, none⟩ = some (.int .i64 r2) ∧ wx.cell? ⟨g, 2, none⟩ = some (.int .i64 r3) ∧ Below wr.heap.size wr wx ∧ wr.heap.size ≤ g)
        case first =>
          go_region_held3 (fun W_ => W_.cell? (ad.add (k * 2)) = some (.int .i64 (kf k)) ∧ W_.cell? ⟨(ad.add (k * 2)).block, (ad.add (k * 2)).off + 1, none⟩ = some (.int .i64 (qf k)) ∧ W_.cell? ⟨w1.heap.size, 0, none⟩ = some (.int .i64 room) ∧ W_.cell? ⟨w1.heap.size, 1, none⟩ = some (.int .i64 y) ∧ W_.cell? ⟨w1.heap.size, 2, none⟩ = some (.int .i64 z) ∧ Below wr.heap.size wr W_) ((repeat' apply And.intro) <;> first | (with_reducible assumption) | ((repeat (first | (with_reducible assumption) | ((with_reducible refine vcell_new ?_); rfl) | ((with_reducible refine vcell_new' ?_ ?_); (focus (simp only [World.size_alloc, World.size_drew, World.size_setCell]; done)); rfl) | (with_reducible refine vcell_drew ?_) | ((with_reducible refine vcell_set ?_ ?_); focus (first | (dsimp only; omega) | omega)) | (with_reducible refine vcell_alloc ?_ _) | (with_reducible refine vcell (by assumption) ?_))); done) | ((repeat (first | (with_reducible assumption) | (with_reducible exact Below.refl _ _) | (with_reducible refine vbelow_alloc ?_ _) | (with_reducible refine vbelow_drew ?_) | ((with_reducible refine vbelow_set' ?_ ?_); focus (first | (dsimp only; omega) | omega)) | (with_reducible refine vbelow_next (by assumption) ?_))); done) | go_keep) (first | (go_at_call 21; refine (act21 _ _ _).mono ?_; rintro e W9 ⟨rfl, rfl⟩) | (go_at_call 35; refine (act35 _ _ _ _ _ _ _ _ _ HR.out _ _ ?_ ?_ ?_).mono ?_; (focus ((try simp only [World.size_alloc, World.size_drew]); omega)); (focus (repeat (first | (with_reducible assumption) | ((with_reducible refine vcell_new ?_); rfl) | ((with_reducible refine vcell_new' ?_ ?_); (focus (simp only [World.size_alloc, World.size_drew, World.size_setCell]; done)); rfl) | (with_reducible refine vcell_drew ?_) | ((with_reducible refine vcell_set ?_ ?_); focus (first | (dsimp only; omega) | omega)) | (with_reducible refine vcell_alloc ?_ _) | (with_reducible refine vcell (by assumption) ?_)))); (focus (repeat (first | (with_reducible assumption) | ((with_reducible refine vcell_new ?_); rfl) | ((with_reducible refine vcell_new' ?_ ?_); (focus (simp only [World.size_alloc, World.size_drew, World.size_setCell]; done)); rfl) | (with_reducible refine vcell_drew ?_) | ((with_reducible refine vcell_set ?_ ?_); focus (first | (dsimp only; omega) | omega)) | (with_reducible refine vcell_alloc ?_ _) | (with_reducible refine vcell (by assumption) ?_)))); rintro e W9 ⟨rfl, hb9⟩; obtain ⟨hcN, hfN⟩ := vbcell hb9; have hzN := hb9.size; (try simp only [World.size_alloc, World.size_drew] at hzN)))
          all_goals go_wp2_with fail
          all_goals
            go_meet
            refine ⟨_, rfl, rfl, ?_, ?_, ?_, ?_, ?_⟩
            all_goals first | (simp [go_sem, *]; done) | omega | (repeat (first | (with_reducible assumption) | (with_reducible exact Below.refl _ _) | (with_reducible refine vbelow_alloc ?_ _) | (with_reducible refine vbelow_drew ?_) | ((with_reducible refine vbelow_set' ?_ ?_); focus (first | (dsimp only; omega) | omega)) | (with_reducible refine vbelow_next (by assumption) ?_)))
        case rest =>
          obtain ⟨g, rfl, rfl, d0, d1, d2, hbx, hgx⟩ := hcut
          have g0' := vcell hbx g0
          have g1' := vcell hbx g1
          have g2' := vcell hbx g2
          have f0' := (hbx.frozen (p := ⟨w1.heap.size, 0, none⟩) hsz).trans f0
          have f1' := (hbx.frozen (p := ⟨w1.heap.size, 1, none⟩) hsz).trans f1
          have f2' := (hbx.frozen (p := ⟨w1.heap.size, 2, none⟩) hsz).trans f2
          have hsz' : w1.heap.size < wc.heap.size := Nat.lt_of_lt_of_le hsz hbx.size
          have HBc : Below w.heap.size w wc := vbelow_next hbx HBr
          have hk := actR_keeps Hy.out HR.out
          cases h4 : (r4 == 0) with
          | true =>
            obtain ⟨e1, HM⟩ := hk h4
            subst e1
            clear hk
            go_upto_region 10 with fail
            obtain ⟨p1, p2, p3, p4, p5, p6⟩ := accMay_yes HM
            have Q0 : (((wc.setCell ⟨w1.heap.size, 0, none⟩ (.int .i64 r1)).setCell ⟨w1.heap.size, 1, none⟩ (.int .i64 r2)).setCell ⟨w1.heap.size, 2, none⟩ (.int .i64 r3)).cell? ⟨w1.heap.size, 0, none⟩ = some (.int .i64 r1) := by simp [go_sem, *]
            have Q1 : (((wc.setCell ⟨w1.heap.size, 0, none⟩ (.int .i64 r1)).setCell ⟨w1.heap.size, 1, none⟩ (.int .i64 r2)).setCell ⟨w1.heap.size, 2, none⟩ (.int .i64 r3)).cell? ⟨w1.heap.size, 1, none⟩ = some (.int .i64 r2) := by simp [go_sem, *]
            have Q2 : (((wc.setCell ⟨w1.heap.size, 0, none⟩ (.int .i64 r1)).setCell ⟨w1.heap.size, 1, none⟩ (.int .i64 r2)).setCell ⟨w1.heap.size, 2, none⟩ (.int .i64 r3)).cell? ⟨w1.heap.size, 2, none⟩ = some (.int .i64 r3) := by simp [go_sem, *]
            have F0 : (((wc.setCell ⟨w1.heap.size, 0, none⟩ (.int .i64 r1)).setCell ⟨w1.heap.size, 1, none⟩ (.int .i64 r2)).setCell ⟨w1.heap.size, 2, none⟩ (.int .i64 r3)).frozen? ⟨w1.heap.size, 0, none⟩ = false := by simp [go_sem, *]
            have F1 : (((wc.setCell ⟨w1.heap.size, 0, none⟩ (.int .i64 r1)).setCell ⟨w1.heap.size, 1, none⟩ (.int .i64 r2)).setCell ⟨w1.heap.size, 2, none⟩ (.int .i64 r3)).frozen? ⟨w1.heap.size, 1, none⟩ = false := by simp [go_sem, *]
            have F2 : (((wc.setCell ⟨w1.heap.size, 0, none⟩ (.int .i64 r1)).setCell ⟨w1.heap.size, 1, none⟩ (.int .i64 r2)).setCell ⟨w1.heap.size, 2, none⟩ (.int .i64 r3)).frozen? ⟨w1.heap.size, 2, none⟩ = false := by simp [go_sem, *]
            have hzq : w1.heap.size < (((wc.setCell ⟨w1.heap.size, 0, none⟩ (.int .i64 r1)).setCell ⟨w1.heap.size, 1, none⟩ (.int .i64 r2)).setCell ⟨w1.heap.size, 2, none⟩ (.int .i64 r3)).heap.size := by (try simp only [World.size_setCell]); omega
            have HBq : Below w.heap.size w (((wc.setCell ⟨w1.heap.size, 0, none⟩ (.int .i64 r1)).setCell ⟨w1.heap.size, 1, none⟩ (.int .i64 r2)).setCell ⟨w1.heap.size, 2, none⟩ (.int .i64 r3)) := by exact vbelow_set (vbelow_set (vbelow_set HBc (by have := HB1.size; dsimp only; omega)) (by have := HB1.size; dsimp only; omega)) (by have := HB1.size; dsimp only; omega)
            obtain ⟨W0, hW0⟩ : ∃ W0, W0 = ((wc.setCell ⟨w1.heap.size, 0, none⟩ (.int .i64 r1)).setCell ⟨w1.heap.size, 1, none⟩ (.int .i64 r2)).setCell ⟨w1.heap.size, 2, none⟩ (.int .i64 r3) := ⟨_, rfl⟩
            rw [← hW0] at Q0 Q1 Q2 F0 F1 F2 hzq HBq ⊢
            clear hW0 d0 d1 d2 g0' g1' g2' f0' f1' f2' g0 g1 g2 f0 f1 f2
            have HM' := Lib.hid HM
            clear HM
            have q0_ := gw_cell Q0
            have q1_ := gw_cell Q1
            have q2_ := gw_cell Q2
            have b1 : decide (r2 < 0) = false := decide_eq_false (by omega)
            have b2 : decide (r1 - r2 < 0) = false := decide_eq_false (by omega)
            have b3 : (r1 != r1) = false := by simp
            refine wp_region_quietB (by kernel_rfl) (by kernel_rfl) ?_
            repeat (first | go_big_quiet_step ((go_at_call 18; exact quietB_of (left18_yes r1 r2 r3 _ HM'.out))) | quiet_step ((go_at_call 18; exact quietB_of (left18_yes r1 r2 r3 _ HM'.out))))
            refine wpQuiet_nil ?_
            rintro w9 ⟨⟨wq_, hb9⟩, hwq_⟩
            obtain rfl : w9 = wq_ := hwq_
            clear b1 b2 b3 q0_ q1_ q2_
            go_wp2
            go_roundw
            case rel => exact ⟨k + 1, r2, r3, by omega, by go_num, HM'.out, vcell hb9 Q0, vcell hb9 Q1, vcell hb9 Q2, (hb9.frozen (p := ⟨w1.heap.size, 0, none⟩) hzq).trans F0, (hb9.frozen (p := ⟨w1.heap.size, 1, none⟩) hzq).trans F1, (hb9.frozen (p := ⟨w1.heap.size, 2, none⟩) hzq).trans F2, Nat.lt_of_lt_of_le hzq hb9.size, vbelow_next hb9 HBq⟩
            case measure => simp [intOf]; omega
          | false =>
            clear hk
            have HM := Hy.out
            go_upto_region 10 with fail
            obtain ⟨p1, p2, p3, p4, p5, p6⟩ := accMay_yes HM
            have Q0 : (wc).cell? ⟨w1.heap.size, 0, none⟩ = some (.int .i64 room) := by simp [go_sem, *]
            have Q1 : (wc).cell? ⟨w1.heap.size, 1, none⟩ = some (.int .i64 y) := by simp [go_sem, *]
            have Q2 : (wc).cell? ⟨w1.heap.size, 2, none⟩ = some (.int .i64 z) := by simp [go_sem, *]
            have F0 : (wc).frozen? ⟨w1.heap.size, 0, none⟩ = false := by simp [go_sem, *]
            have F1 : (wc).frozen? ⟨w1.heap.size, 1, none⟩ = false := by simp [go_sem, *]
            have F2 : (wc).frozen? ⟨w1.heap.size, 2, none⟩ = false := by simp [go_sem, *]
            have hzq : w1.heap.size < (wc).heap.size := by (try simp only [World.size_setCell]); omega
            have HBq : Below w.heap.size w (wc) := by exact HBc
            obtain ⟨W0, hW0⟩ : ∃ W0, W0 = wc := ⟨_, rfl⟩
            rw [← hW0] at Q0 Q1 Q2 F0 F1 F2 hzq HBq ⊢
            clear hW0 d0 d1 d2 g0' g1' g2' f0' f1' f2' g0 g1 g2 f0 f1 f2
            have HM' := Lib.hid HM
            clear HM
            have q0_ := gw_cell Q0
            have q1_ := gw_cell Q1
            have q2_ := gw_cell Q2
            have b1 : decide (y < 0) = false := decide_eq_false (by omega)
            have b2 : decide (room - y < 0) = false := decide_eq_false (by omega)
            have b3 : (room != room) = false := by simp
            refine wp_region_quietB (by kernel_rfl) (by kernel_rfl) ?_
            repeat (first | go_big_quiet_step ((go_at_call 18; exact quietB_of (left18_yes room y z _ HM'.out))) | quiet_step ((go_at_call 18; exact quietB_of (left18_yes room y z _ HM'.out))))
            refine wpQuiet_nil ?_
            rintro w9 ⟨⟨wq_, hb9⟩, hwq_⟩
            obtain rfl : w9 = wq_ := hwq_
            clear b1 b2 b3 q0_ q1_ q2_
            go_wp2
            go_roundw
            case rel => exact ⟨k + 1, y, z, by omega, by go_num, HM'.out, vcell hb9 Q0, vcell hb9 Q1, vcell hb9 Q2, (hb9.frozen (p := ⟨w1.heap.size, 0, none⟩) hzq).trans F0, (hb9.frozen (p := ⟨w1.heap.size, 1, none⟩) hzq).trans F1, (hb9.frozen (p := ⟨w1.heap.size, 2, none⟩) hzq).trans F2, Nat.lt_of_lt_of_le hzq hb9.size, vbelow_next hb9 HBq⟩
            case measure => simp [intOf]; omega
      · clear g0 g1 g2
        go_wp2_with (go_at_call 20; refine (alive20 _).mono ?_; rintro e W9 ⟨rfl, hb9⟩)
        go_ret
        exact ⟨rfl, vbelow_next hb9 HBr⟩
    · clear g0 g1 g2
      go_wp2_with (go_at_call 20; refine (alive20 _).mono ?_; rintro e W9 ⟨rfl, hb9⟩)
      go_ret
      exact ⟨rfl, vbelow_next hb9 HBr⟩
set_option maxHeartbeats 1000000 in
set_option maxRecDepth 100000 in
theorem bounded4_low (room : Int) (v : Value) (w : World) (hm : accMay room 0 0 = false) (hr : room < 1) : Calls Try.prog 4 #[.int .i64 room, v] w fun e w' => e = .returned (.bool true) ∧ Below w.heap.size w w' := by
  have Hm := Lib.hid hm
  clear hm
  go_enter Try.func4, Try.ntmps4
  go_wp2_with fail
  refine (open8_no room _ Hm.out).mono ?_
  rintro e w1 ⟨rfl, hb1⟩
  obtain ⟨hc1, hf1⟩ := vbcell hb1
  have hz1 : w.heap.size ≤ w1.heap.size := (by have h_ := hb1.size; (try simp only [World.size_alloc, World.size_setCell, World.size_drew, World.heap_drewN] at h_); omega)
  have HB1 : Below w.heap.size w w1 := vbelow_step (by repeat (first | (with_reducible exact Below.refl _ _) | (with_reducible refine vbelow_alloc ?_ _) | (with_reducible refine vbelow_drew ?_) | (with_reducible refine vbelow_drewN ?_ _) | (with_reducible refine vbelow_set ?_ (by first | exact Nat.le_refl _ | (dsimp only; omega) | omega)))) hb1
  clear hc1 hf1 hb1
  go_wp2_with fail
  refine (alive20 _).mono ?_
  rintro e w2 ⟨rfl, hb2⟩
  obtain ⟨hc2, hf2⟩ := vbcell hb2
  have hz2 : w1.heap.size + 1 ≤ w2.heap.size := (by have h_ := hb2.size; (try simp only [World.size_alloc, World.size_setCell, World.size_drew, World.heap_drewN] at h_); omega)
  have hc2_1_0 := fun o => hc2 (w1.heap.size) o (by (try simp only [World.size_alloc, World.size_setCell, World.size_drew, World.heap_drewN]); omega)
  have hf2_1_0 := fun o => hf2 (w1.heap.size) o (by (try simp only [World.size_alloc, World.size_setCell, World.size_drew, World.heap_drewN]); omega)
  have HB2 : Below w.heap.size w w2 := vbelow_step (by repeat (first | (with_reducible exact Below.refl _ _) | (with_reducible exact HB1) | (with_reducible refine vbelow_alloc ?_ _) | (with_reducible refine vbelow_drew ?_) | (with_reducible refine vbelow_drewN ?_ _) | (with_reducible refine vbelow_set ?_ (by first | exact Nat.le_refl _ | (dsimp only; omega) | omega)))) hb2
  clear hc2 hf2 hb2 HB1
  have hz2_1_0 : w1.heap.size < w2.heap.size := (by omega)
  go_wp2
  go_ret
  exact ⟨rfl, (by repeat (first | (with_reducible exact Below.refl _ _) | (with_reducible exact HB2) | (with_reducible refine vbelow_alloc ?_ _) | (with_reducible refine vbelow_drew ?_) | (with_reducible refine vbelow_drewN ?_ _) | (with_reducible refine vbelow_set ?_ (by first | exact Nat.le_refl _ | (dsimp only; omega) | omega))))⟩
set_option maxHeartbeats 1000000 in
set_option maxRecDepth 100000 in
theorem bounded4_high (room : Int) (v : Value) (w : World) (hm : accMay room 0 0 = false) (hr : 256 < room) : Calls Try.prog 4 #[.int .i64 room, v] w fun e w' => e = .returned (.bool true) ∧ Below w.heap.size w w' := by
  have Hm := Lib.hid hm
  clear hm
  go_enter Try.func4, Try.ntmps4
  go_wp2_with fail
  refine (open8_no room _ Hm.out).mono ?_
  rintro e w1 ⟨rfl, hb1⟩
  obtain ⟨hc1, hf1⟩ := vbcell hb1
  have hz1 : w.heap.size ≤ w1.heap.size := (by have h_ := hb1.size; (try simp only [World.size_alloc, World.size_setCell, World.size_drew, World.heap_drewN] at h_); omega)
  have HB1 : Below w.heap.size w w1 := vbelow_step (by repeat (first | (with_reducible exact Below.refl _ _) | (with_reducible refine vbelow_alloc ?_ _) | (with_reducible refine vbelow_drew ?_) | (with_reducible refine vbelow_drewN ?_ _) | (with_reducible refine vbelow_set ?_ (by first | exact Nat.le_refl _ | (dsimp only; omega) | omega)))) hb1
  clear hc1 hf1 hb1
  go_wp2_with fail
  refine (alive20 _).mono ?_
  rintro e w2 ⟨rfl, hb2⟩
  obtain ⟨hc2, hf2⟩ := vbcell hb2
  have hz2 : w1.heap.size + 1 ≤ w2.heap.size := (by have h_ := hb2.size; (try simp only [World.size_alloc, World.size_setCell, World.size_drew, World.heap_drewN] at h_); omega)
  have hc2_1_0 := fun o => hc2 (w1.heap.size) o (by (try simp only [World.size_alloc, World.size_setCell, World.size_drew, World.heap_drewN]); omega)
  have hf2_1_0 := fun o => hf2 (w1.heap.size) o (by (try simp only [World.size_alloc, World.size_setCell, World.size_drew, World.heap_drewN]); omega)
  have HB2 : Below w.heap.size w w2 := vbelow_step (by repeat (first | (with_reducible exact Below.refl _ _) | (with_reducible exact HB1) | (with_reducible refine vbelow_alloc ?_ _) | (with_reducible refine vbelow_drew ?_) | (with_reducible refine vbelow_drewN ?_ _) | (with_reducible refine vbelow_set ?_ (by first | exact Nat.le_refl _ | (dsimp only; omega) | omega)))) hb2
  clear hc2 hf2 hb2 HB1
  have hz2_1_0 : w1.heap.size < w2.heap.size := (by omega)
  go_wp2
  go_ret
  exact ⟨rfl, (by repeat (first | (with_reducible exact Below.refl _ _) | (with_reducible exact HB2) | (with_reducible refine vbelow_alloc ?_ _) | (with_reducible refine vbelow_drew ?_) | (with_reducible refine vbelow_drewN ?_ _) | (with_reducible refine vbelow_set ?_ (by first | exact Nat.le_refl _ | (dsimp only; omega) | omega))))⟩
theorem bounded4all (room : Int) (A : Option Addr) (n c : Nat) (kf qf : Nat → Int) (hn : n ≤ 9223372036854775807) (w : World) (hA : SliceOps w A n kf qf) :
    Calls Try.prog 4 #[.int .i64 room, .slice A n c] w fun e w' => e = .returned (.bool true) ∧ Below w.heap.size w w' := by
  cases hm : accMay room 0 0 with
  | true => exact bounded4 room A n c kf qf hn w hA hm
  | false =>
    by_cases hr : room < 1
    · exact bounded4_low room _ w hm hr
    · refine bounded4_high room _ w hm ?_
      have h_ : ¬ (accMay room 0 0 = true) := by rw [hm]; decide
      simp only [accMay, Bool.and_eq_true, decide_eq_true_eq] at h_
      omega
end Go.Proofs.Ytfjljlhlifnnlaa.Q
