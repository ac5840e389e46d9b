/- Layer 11: the reference's table: what it tells. -/
import Derived.Test.YtcpaakhmcpeagaaD1
import Derived.Test.YtcpaakhmcpeagaaC17
namespace Go.Proofs.Ytcpaakhmcpeagaa.Q
open Go.RowKit Go.Proofs.YtcpaakhmcpeagaaW.PrintWords Go.Proofs.YtcpaakhmcpeagaaW.PrintMore
set_option linter.unusedVariables false
set_option linter.unusedSimpArgs false
theorem refHandle39 (w : World) (a b c : Int) : Calls Try.prog 39 #[.int .i64 a, .int .i64 b, .int .i64 c] w fun e w' => e = .returned (.tuple #[.int .u32 (handleR a b c).1, .int .i64 (handleR a b c).2]) ∧ Below w.heap.size w w' :=
  (rampartref03_Handle.calls a b c _ _ w (refHandle_eq a b c)).mono fun _ _ h => ⟨h.1, by first | exact h.2 | exact h.2.below⟩
set_option maxHeartbeats 1000000 in
set_option maxRecDepth 100000 in
theorem rhandle34 (w : World) (rb : Nat) (A : Option Addr) (cc n : Nat) (P : Nat → Pl) (hn : n ≤ 32) (ok : Ok P) (h : RT w rb A cc n P) (i : Nat) (hi : i < n) : Calls Try.prog 34 #[.pointer (some ⟨rb, 0, none⟩), .int .i64 i] w fun e w' => e = .returned (.int .u32 (hd P i)) ∧ Below w.heap.size w w' := by
  unfold hd
  obtain ⟨vb, rfl, hrow, Q0, Q1, Q2, Q3⟩ := h.get i hi
  have C0 := h.cell0
  have hi0 : (0 : Int) ≤ (i : Int) := by omega
  have hin : (i : Int) < (n : Int) := by omega
  have hw : wrap64 (P i).r = (P i).r := w64 (by have := ok.r0 i; omega) (by have := ok.r1 i; omega)
  clear hrow
  go_enter Try.func34, Try.ntmps34
  go_wp2
  have qc0 := gw_cell C0
  have q0 := gw_cell Q0
  have q1 := gw_cell Q1
  have q2 := gw_cell Q2
  have q3 := gw_cell Q3
  refine wp_region_quietB (by kernel_rfl) (by kernel_rfl) ?_
  repeat (first | go_big_quiet_step ((go_at_call 39; exact quietB_of (refHandle39 _ _ _ _))) | quiet_step ((go_at_call 39; exact quietB_of (refHandle39 _ _ _ _))))
  refine wpQuiet_nil ?_
  rintro w9 ⟨⟨wq_, hb9⟩, hwq_⟩
  obtain rfl : w9 = wq_ := hwq_
  go_wp2
  go_ret
  exact ⟨rfl, hb9⟩
set_option maxHeartbeats 1000000 in
set_option maxRecDepth 100000 in
theorem rfree_a (w : World) (rb : Nat) (A : Option Addr) (cc n : Nat) (P : Nat → Pl) (hn : n ≤ 32) (ok : Ok P) (h : RT w rb A cc n P) (i : Nat) (hi : i < n) (hf : ∀ k, k < i → opn (P k) = false) (ht : opn (P i) = true) : Calls Try.prog 38 #[.pointer (some ⟨rb, 0, none⟩)] w fun e w' => e = .returned (.int .i64 i) ∧ Below w.heap.size w w' := by
  go_enter Try.func38, Try.ntmps38
  go_wp2
  go_loopw [3] (fun v3 wr => ∃ k : Nat, k ≤ i ∧ v3 = .int .i64 k ∧ RT wr rb A cc n P ∧ Below w.heap.size w wr) (fun v3 _ => i + 1 - (intOf v3).toNat)
  case atStart => exact ⟨0, Nat.zero_le _, rfl, h.below (by repeat (first | (with_reducible exact Below.refl _ _) | (with_reducible refine vbelow_alloc ?_ _) | (with_reducible refine vbelow_drew ?_) | (with_reducible refine vbelow_drewN ?_ _) | (with_reducible refine vbelow_set ?_ (by first | exact Nat.le_refl _ | (dsimp only; omega) | omega)))), (by repeat (first | (with_reducible exact Below.refl _ _) | (with_reducible refine vbelow_alloc ?_ _) | (with_reducible refine vbelow_drew ?_) | (with_reducible refine vbelow_drewN ?_ _) | (with_reducible refine vbelow_set ?_ (by first | exact Nat.le_refl _ | (dsimp only; omega) | omega))))⟩
  case round =>
    obtain ⟨k, hk, rfl, T1, HB1⟩ := hrel
    by_cases hki : k < i
    · have hkn_ : k < n := by omega
      obtain ⟨vb, rfl, hrow, Q0, Q1, Q2, Q3⟩ := T1.get k hkn_
      have C0 := T1.cell0
      have hk0 : (0 : Int) ≤ (k : Int) := by omega
      have hkn : (k : Int) < n := by omega
      have hlt1 : decide ((k : Int) < n) = true := decide_eq_true hkn
      clear hrow
      have ho := hf k hki
      unfold opn at ho
      cases ht : (P k).t with
      | true =>
        rw [ht] at Q0
        go_wp2
        go_roundw
        case rel => exact ⟨k + 1, by omega, by go_num, T1, HB1⟩
        case measure => simp [intOf]; omega
      | false =>
        rw [ht] at Q0 ho
        have hg : decide ((P k).g ≤ 65535) = false := by simpa using ho
        clear ho
        go_wp2
        go_roundw
        case rel => exact ⟨k + 1, by omega, by go_num, T1, HB1⟩
        case measure => simp [intOf]; omega
    · obtain rfl : k = i := by omega
      have hkn_ : k < n := hi
      obtain ⟨vb, rfl, hrow, Q0, Q1, Q2, Q3⟩ := T1.get k hkn_
      have C0 := T1.cell0
      have hk0 : (0 : Int) ≤ (k : Int) := by omega
      have hkn : (k : Int) < n := by omega
      have hlt1 : decide ((k : Int) < n) = true := decide_eq_true hkn
      clear hrow
      obtain ⟨ht2, hg2⟩ := opn_of ht
      rw [ht2] at Q0
      have hg : decide ((P k).g ≤ 65535) = true := decide_eq_true hg2
      go_wp2
      go_ret
      exact ⟨rfl, HB1⟩
set_option maxHeartbeats 1000000 in
set_option maxRecDepth 100000 in
theorem rfree_b (w : World) (rb : Nat) (A : Option Addr) (cc n : Nat) (P : Nat → Pl) (hn : n ≤ 32) (ok : Ok P) (h : RT w rb A cc n P) (hf : ∀ k, k < n → opn (P k) = false) : Calls Try.prog 38 #[.pointer (some ⟨rb, 0, none⟩)] w fun e w' => e = .returned (.int .i64 (-1)) ∧ Below w.heap.size w w' := by
  go_enter Try.func38, Try.ntmps38
  go_wp2
  go_loopw [3] (fun v3 wr => ∃ k : Nat, k ≤ n ∧ v3 = .int .i64 k ∧ RT wr rb A cc n P ∧ Below w.heap.size w wr) (fun v3 _ => n + 1 - (intOf v3).toNat)
  case atStart => exact ⟨0, Nat.zero_le _, rfl, h.below (by repeat (first | (with_reducible exact Below.refl _ _) | (with_reducible refine vbelow_alloc ?_ _) | (with_reducible refine vbelow_drew ?_) | (with_reducible refine vbelow_drewN ?_ _) | (with_reducible refine vbelow_set ?_ (by first | exact Nat.le_refl _ | (dsimp only; omega) | omega)))), (by repeat (first | (with_reducible exact Below.refl _ _) | (with_reducible refine vbelow_alloc ?_ _) | (with_reducible refine vbelow_drew ?_) | (with_reducible refine vbelow_drewN ?_ _) | (with_reducible refine vbelow_set ?_ (by first | exact Nat.le_refl _ | (dsimp only; omega) | omega))))⟩
  case round =>
    obtain ⟨k, hk, rfl, T1, HB1⟩ := hrel
    by_cases hki : k < n
    · have hkn_ : k < n := by omega
      obtain ⟨vb, rfl, hrow, Q0, Q1, Q2, Q3⟩ := T1.get k hkn_
      have C0 := T1.cell0
      have hk0 : (0 : Int) ≤ (k : Int) := by omega
      have hkn : (k : Int) < n := by omega
      have hlt1 : decide ((k : Int) < n) = true := decide_eq_true hkn
      clear hrow
      have ho := hf k hki
      unfold opn at ho
      cases ht : (P k).t with
      | true =>
        rw [ht] at Q0
        go_wp2
        go_roundw
        case rel => exact ⟨k + 1, by omega, by go_num, T1, HB1⟩
        case measure => simp [intOf]; omega
      | false =>
        rw [ht] at Q0 ho
        have hg : decide ((P k).g ≤ 65535) = false := by simpa using ho
        clear ho
        go_wp2
        go_roundw
        case rel => exact ⟨k + 1, by omega, by go_num, T1, HB1⟩
        case measure => simp [intOf]; omega
    · obtain rfl : k = n := by omega
      have C0 := T1.cell0
      go_wp2
      go_ret
      exact ⟨rfl, HB1⟩
set_option maxHeartbeats 1000000 in
set_option maxRecDepth 100000 in
theorem rleft21 (w : World) (rb : Nat) (A : Option Addr) (cc n : Nat) (P : Nat → Pl) (hn : n ≤ 32) (ok : Ok P) (h : RT w rb A cc n P) : Calls Try.prog 21 #[.pointer (some ⟨rb, 0, none⟩)] w fun e w' => e = .returned (.int .i64 ((leftF P n : Nat) : Int)) ∧ Below w.heap.size w w' := by
  go_enter Try.func21, Try.ntmps21
  go_wp2
  go_loopw [3, 4] (fun v3 v4 wr => ∃ k : Nat, k ≤ n ∧ v4 = .int .i64 k ∧ v3 = .int .i64 ((leftF P k : Nat) : Int) ∧ RT wr rb A cc n P ∧ Below w.heap.size w wr) (fun _ v4 _ => n + 1 - (intOf v4).toNat)
  case atStart => exact ⟨0, Nat.zero_le _, rfl, rfl, h.below (by repeat (first | (with_reducible exact Below.refl _ _) | (with_reducible refine vbelow_alloc ?_ _) | (with_reducible refine vbelow_drew ?_) | (with_reducible refine vbelow_drewN ?_ _) | (with_reducible refine vbelow_set ?_ (by first | exact Nat.le_refl _ | (dsimp only; omega) | omega)))), (by repeat (first | (with_reducible exact Below.refl _ _) | (with_reducible refine vbelow_alloc ?_ _) | (with_reducible refine vbelow_drew ?_) | (with_reducible refine vbelow_drewN ?_ _) | (with_reducible refine vbelow_set ?_ (by first | exact Nat.le_refl _ | (dsimp only; omega) | omega))))⟩
  case round =>
    obtain ⟨k, hk, rfl, rfl, T1, HB1⟩ := hrel
    by_cases hki : k < n
    · have hkn_ : k < n := hki
      obtain ⟨vb, rfl, hrow, Q0, Q1, Q2, Q3⟩ := T1.get k hkn_
      have C0 := T1.cell0
      have hk0 : (0 : Int) ≤ (k : Int) := by omega
      have hkn : (k : Int) < n := by omega
      have hlt1 : decide ((k : Int) < n) = true := decide_eq_true hkn
      clear hrow
      have hl := leftF_le P k
      have hs := leftF_step P k
      cases ht : (P k).t with
      | true =>
        have ho : opn (P k) = false := by unfold opn; rw [ht]; rfl
        rw [ho] at hs
        rw [ht] at Q0
        go_wp2
        go_roundw
        case rel => exact ⟨k + 1, by omega, by go_num, by rw [hs]; rfl, T1, HB1⟩
        case measure => simp [intOf]; omega
      | false =>
        rw [ht] at Q0
        by_cases hg : (P k).g ≤ 65535
        · have ho : opn (P k) = true := by unfold opn; rw [ht]; simpa using hg
          rw [ho] at hs
          have hgd : decide ((P k).g ≤ 65535) = true := decide_eq_true hg
          have hw : wrap64 (((leftF P k : Nat) : Int) + 1) = ((leftF P k : Nat) : Int) + 1 := w64 (by omega) (by omega)
          go_wp2
          go_roundw
          case rel => exact ⟨k + 1, by omega, by go_num, by rw [hs]; simp, T1, HB1⟩
          case measure => simp [intOf]; omega
        · have ho : opn (P k) = false := by unfold opn; rw [ht]; simpa using hg
          rw [ho] at hs
          have hgd : decide ((P k).g ≤ 65535) = false := decide_eq_false hg
          go_wp2
          go_roundw
          case rel => exact ⟨k + 1, by omega, by go_num, by rw [hs]; rfl, T1, HB1⟩
          case measure => simp [intOf]; omega
    · obtain rfl : k = n := by omega
      have C0 := T1.cell0
      go_wp2
      go_ret
      exact ⟨rfl, HB1⟩
set_option maxHeartbeats 1000000 in
set_option maxRecDepth 100000 in
theorem rplace_a (w : World) (rb : Nat) (A : Option Addr) (cc n : Nat) (P : Nat → Pl) (hn : n ≤ 32) (ok : Ok P) (h : RT w rb A cc n P) (x : Int) (i : Nat) (hi : i < n) (ht : (P i).t = true) (hh : hd P i = x) (hf : ∀ k, k < i → (P k).t = true → hd P k ≠ x) : Calls Try.prog 35 #[.pointer (some ⟨rb, 0, none⟩), .int .u32 x] w fun e w' => e = .returned (.int .i64 i) ∧ Below w.heap.size w w' := by
  go_enter Try.func35, Try.ntmps35
  go_wp2
  go_loopw [5] (fun v5 wr => ∃ k : Nat, k ≤ i ∧ v5 = .int .i64 k ∧ RT wr rb A cc n P ∧ Below w.heap.size w wr) (fun v5 _ => i + 1 - (intOf v5).toNat)
  case atStart => exact ⟨0, Nat.zero_le _, rfl, h.below (by repeat (first | (with_reducible exact Below.refl _ _) | (with_reducible refine vbelow_alloc ?_ _) | (with_reducible refine vbelow_drew ?_) | (with_reducible refine vbelow_drewN ?_ _) | (with_reducible refine vbelow_set ?_ (by first | exact Nat.le_refl _ | (dsimp only; omega) | omega)))), (by repeat (first | (with_reducible exact Below.refl _ _) | (with_reducible refine vbelow_alloc ?_ _) | (with_reducible refine vbelow_drew ?_) | (with_reducible refine vbelow_drewN ?_ _) | (with_reducible refine vbelow_set ?_ (by first | exact Nat.le_refl _ | (dsimp only; omega) | omega))))⟩
  case round =>
    obtain ⟨k, hk, rfl, T1, HB1⟩ := hrel
    by_cases hki : k < i
    · have hkn_ : k < n := by omega
      obtain ⟨vb, rfl, hrow, Q0, Q1, Q2, Q3⟩ := T1.get k hkn_
      have C0 := T1.cell0
      have hk0 : (0 : Int) ≤ (k : Int) := by omega
      have hkn : (k : Int) < n := by omega
      have hlt1 : decide ((k : Int) < n) = true := decide_eq_true hkn
      clear hrow
      cases ht : (P k).t with
      | true =>
        rw [ht] at Q0
        have hne := hf k hki ht
        have hnd : decide (hd P k = x) = false := decide_eq_false hne
        have hnb : (hd P k == x) = false := beq_eq_false_iff_ne.2 hne
        go_wp2_with fail
        refine (rhandle34 _ rb _ cc n P hn ok T1 k hkn_).mono ?_
        rintro e w2 ⟨rfl, hb2⟩
        have T2 := T1.below hb2
        have HB2 : Below w.heap.size w w2 := vbelow_step HB1 hb2
        go_wp2
        go_roundw
        case rel => exact ⟨k + 1, by omega, by go_num, T2, HB2⟩
        case measure => simp [intOf]; omega
      | false =>
        rw [ht] at Q0
        go_wp2
        go_roundw
        case rel => exact ⟨k + 1, by omega, by go_num, T1, HB1⟩
        case measure => simp [intOf]; omega
    · obtain rfl : k = i := by omega
      have hkn_ : k < n := hi
      obtain ⟨vb, rfl, hrow, Q0, Q1, Q2, Q3⟩ := T1.get k hkn_
      have C0 := T1.cell0
      have hk0 : (0 : Int) ≤ (k : Int) := by omega
      have hkn : (k : Int) < n := by omega
      have hlt1 : decide ((k : Int) < n) = true := decide_eq_true hkn
      clear hrow
      rw [ht] at Q0
      go_wp2_with fail
      refine (rhandle34 _ rb _ cc n P hn ok T1 k hkn_).mono ?_
      rintro e w2 ⟨rfl, hb2⟩
      have T2 := T1.below hb2
      have HB2 : Below w.heap.size w w2 := vbelow_step HB1 hb2
      rw [hh]
      go_wp2
      go_ret
      exact ⟨rfl, HB2⟩
set_option maxHeartbeats 1000000 in
set_option maxRecDepth 100000 in
theorem rplace_b (w : World) (rb : Nat) (A : Option Addr) (cc n : Nat) (P : Nat → Pl) (hn : n ≤ 32) (ok : Ok P) (h : RT w rb A cc n P) (x : Int) (hf : ∀ k, k < n → (P k).t = true → hd P k ≠ x) : Calls Try.prog 35 #[.pointer (some ⟨rb, 0, none⟩), .int .u32 x] w fun e w' => e = .returned (.int .i64 (-1)) ∧ Below w.heap.size w w' := by
  go_enter Try.func35, Try.ntmps35
  go_wp2
  go_loopw [5] (fun v5 wr => ∃ k : Nat, k ≤ n ∧ v5 = .int .i64 k ∧ RT wr rb A cc n P ∧ Below w.heap.size w wr) (fun v5 _ => n + 1 - (intOf v5).toNat)
  case atStart => exact ⟨0, Nat.zero_le _, rfl, h.below (by repeat (first | (with_reducible exact Below.refl _ _) | (with_reducible refine vbelow_alloc ?_ _) | (with_reducible refine vbelow_drew ?_) | (with_reducible refine vbelow_drewN ?_ _) | (with_reducible refine vbelow_set ?_ (by first | exact Nat.le_refl _ | (dsimp only; omega) | omega)))), (by repeat (first | (with_reducible exact Below.refl _ _) | (with_reducible refine vbelow_alloc ?_ _) | (with_reducible refine vbelow_drew ?_) | (with_reducible refine vbelow_drewN ?_ _) | (with_reducible refine vbelow_set ?_ (by first | exact Nat.le_refl _ | (dsimp only; omega) | omega))))⟩
  case round =>
    obtain ⟨k, hk, rfl, T1, HB1⟩ := hrel
    by_cases hki : k < n
    · have hkn_ : k < n := by omega
      obtain ⟨vb, rfl, hrow, Q0, Q1, Q2, Q3⟩ := T1.get k hkn_
      have C0 := T1.cell0
      have hk0 : (0 : Int) ≤ (k : Int) := by omega
      have hkn : (k : Int) < n := by omega
      have hlt1 : decide ((k : Int) < n) = true := decide_eq_true hkn
      clear hrow
      cases ht : (P k).t with
      | true =>
        rw [ht] at Q0
        have hne := hf k hki ht
        have hnd : decide (hd P k = x) = false := decide_eq_false hne
        have hnb : (hd P k == x) = false := beq_eq_false_iff_ne.2 hne
        go_wp2_with fail
        refine (rhandle34 _ rb _ cc n P hn ok T1 k hkn_).mono ?_
        rintro e w2 ⟨rfl, hb2⟩
        have T2 := T1.below hb2
        have HB2 : Below w.heap.size w w2 := vbelow_step HB1 hb2
        go_wp2
        go_roundw
        case rel => exact ⟨k + 1, by omega, by go_num, T2, HB2⟩
        case measure => simp [intOf]; omega
      | false =>
        rw [ht] at Q0
        go_wp2
        go_roundw
        case rel => exact ⟨k + 1, by omega, by go_num, T1, HB1⟩
        case measure => simp [intOf]; omega
    · obtain rfl : k = n := by omega
      have C0 := T1.cell0
      go_wp2
      go_ret
      exact ⟨rfl, HB1⟩
theorem hd_inj {P : Nat → Pl} (ok : Ok P) {k : Nat} {x : Int} (hk : k < 32) (ht : (P k).t = true) (hh : hd P k = x) : (x % 256).toNat = k := by
  have e := hd_is ok (i := k) (by omega) (ok.tg k ht)
  have := ok.r0 k
  have := ok.r1 k
  omega
theorem rplace35 (w : World) (rb : Nat) (A : Option Addr) (cc n : Nat) (P : Nat → Pl) (hn : n ≤ 32) (ok : Ok P) (h : RT w rb A cc n P) (x : Int) : Calls Try.prog 35 #[.pointer (some ⟨rb, 0, none⟩), .int .u32 x] w fun e w' => e = .returned (.int .i64 (atF P n x)) ∧ Below w.heap.size w w' := by
  unfold atF
  by_cases hc : (x % 256).toNat < n ∧ (P (x % 256).toNat).t = true ∧ hd P (x % 256).toNat = x
  · rw [if_pos hc]
    exact rplace_a w rb A cc n P hn ok h x _ hc.1 hc.2.1 hc.2.2 (fun k hk ht hh => by have := hd_inj ok (show k < 32 by omega) ht hh; omega)
  · rw [if_neg hc]
    exact rplace_b w rb A cc n P hn ok h x (fun k hk ht hh => hc (by rw [hd_inj ok (show k < 32 by omega) ht hh]; exact ⟨hk, ht, hh⟩))
end Go.Proofs.Ytcpaakhmcpeagaa.Q
