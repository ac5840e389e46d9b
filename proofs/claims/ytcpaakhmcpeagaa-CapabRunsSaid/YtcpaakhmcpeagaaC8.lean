/- Layer 11: how many places are left; the handles that live. -/
import Derived.Test.YtcpaakhmcpeagaaC5
namespace Go.Proofs.Ytcpaakhmcpeagaa.Q
open Go.RowKit Go.Proofs.YtcpaakhmcpeagaaW.PrintWords Go.Proofs.YtcpaakhmcpeagaaW.PrintMore
set_option linter.unusedVariables false
set_option linter.unusedSimpArgs false
theorem info31' : (Try.prog.info? 31).map (fun i => (i.zero, i.size, i.bytes)) = some (some (.int .u32 0), 1, 4) := by kernel_rfl
/-- How many of the first k places can be given. -/
def leftF (P : Nat → Pl) (k : Nat) : Nat := ((List.range k).filter (fun i => opn (P i))).length
theorem leftF_step (P : Nat → Pl) (k : Nat) : leftF P (k + 1) = leftF P k + (if opn (P k) then 1 else 0) := by
  unfold leftF
  rw [List.range_succ, List.filter_append, List.length_append]
  cases h : opn (P k) <;> simp [h]
theorem leftF_le (P : Nat → Pl) (k : Nat) : leftF P k ≤ k := by unfold leftF; have := List.length_filter_le (fun i => opn (P i)) (List.range k); rw [List.length_range] at this; exact this
/-- The handles of the first k places. -/
def liveF (P : Nat → Pl) (k : Nat) : List Int := ((List.range k).filter (fun i => (P i).t)).map (hd P)
theorem liveF_yes (P : Nat → Pl) (k : Nat) (h : (P k).t = true) : liveF P (k + 1) = liveF P k ++ [hd P k] := by
  unfold liveF
  rw [List.range_succ, List.filter_append, List.map_append]
  simp [h]
theorem liveF_no (P : Nat → Pl) (k : Nat) (h : (P k).t = false) : liveF P (k + 1) = liveF P k := by
  unfold liveF
  rw [List.range_succ, List.filter_append, List.map_append]
  simp [h]
theorem liveF_le (P : Nat → Pl) (k : Nat) : (liveF P k).length ≤ k := by unfold liveF; rw [List.length_map]; have := List.length_filter_le (fun i => (P i).t) (List.range k); rw [List.length_range] at this; exact this
set_option maxHeartbeats 1000000 in
set_option maxRecDepth 100000 in
theorem left20 (w : World) (b : Nat) (P : Nat → Pl) (n : Nat) (hn : n ≤ 32) (ok : Ok P) (h : TabAt w b P n true) : Calls Try.prog 20 #[.pointer (some ⟨b, 0, none⟩)] w fun e w' => e = .returned (.int .i64 ((leftF P n : Nat) : Int)) ∧ Below w.heap.size w w' := by
  go_enter Try.func20, Try.ntmps20
  go_wp2_with fail
  refine (row28 _ b P n hn h).mono ?_
  rintro e w1 ⟨rfl, hb1⟩
  go_wp2
  go_loopw [3, 10] (fun v3 v10 wr => ∃ k : Nat, k ≤ n ∧ v10 = .int .i64 k ∧ v3 = .int .i64 ((leftF P k : Nat) : Int) ∧ Below w.heap.size w wr) (fun _ v10 _ => n + 1 - (intOf v10).toNat)
  case atStart => exact ⟨0, Nat.zero_le _, rfl, rfl, hb1⟩
  case round =>
    obtain ⟨k, hk, rfl, rfl, HB1⟩ := hrel
    by_cases hki : k < n
    · cases ho : opn (P k) with
      | true =>
        have T1 := h.below HB1
        have Q0 := T1.g k (by omega)
        have Q1 := T1.t k (by omega)
        have Q2 := T1.c k (by omega)
        have Q3 := T1.r k (by omega)
        have hk32 : (k : Int) < 32 := by omega
        have hk0 : (0 : Int) ≤ (k : Int) := by omega
        have hkn : (k : Int) < n := by omega
        have hlt1 : decide ((k : Int) < n) = true := decide_eq_true hkn
        have hl := leftF_le P k
        have hs := leftF_step P k
        rw [ho] at hs
        go_wp2_with fail
        refine (open29 _ _ _ _ _).mono ?_
        rw [show (!(P k).t && decide ((P k).g ≤ 65535)) = true from ho]
        rintro e w2 ⟨rfl, hb2⟩
        have HB2 : Below w.heap.size w w2 := vbelow_step (by repeat (first | (with_reducible exact Below.refl _ _) | (with_reducible exact HB1) | (with_reducible refine vbelow_alloc ?_ _) | (with_reducible refine vbelow_drew ?_) | (with_reducible refine vbelow_drewN ?_ _) | (with_reducible refine vbelow_set ?_ (by first | exact Nat.le_refl _ | (dsimp only; omega) | omega)))) hb2
        have hw : wrap64 (((leftF P k : Nat) : Int) + 1) = ((leftF P k : Nat) : Int) + 1 := w64 (by omega) (by omega)
        go_wp2
        go_roundw
        case rel => exact ⟨k + 1, by omega, by go_num, by rw [hs]; simp, HB2⟩
        case measure => simp [intOf]; omega
      | false =>
        have T1 := h.below HB1
        have Q0 := T1.g k (by omega)
        have Q1 := T1.t k (by omega)
        have Q2 := T1.c k (by omega)
        have Q3 := T1.r k (by omega)
        have hk32 : (k : Int) < 32 := by omega
        have hk0 : (0 : Int) ≤ (k : Int) := by omega
        have hkn : (k : Int) < n := by omega
        have hlt1 : decide ((k : Int) < n) = true := decide_eq_true hkn
        have hl := leftF_le P k
        have hs := leftF_step P k
        rw [ho] at hs
        go_wp2_with fail
        refine (open29 _ _ _ _ _).mono ?_
        rw [show (!(P k).t && decide ((P k).g ≤ 65535)) = false from ho]
        rintro e w2 ⟨rfl, hb2⟩
        have HB2 : Below w.heap.size w w2 := vbelow_step (by repeat (first | (with_reducible exact Below.refl _ _) | (with_reducible exact HB1) | (with_reducible refine vbelow_alloc ?_ _) | (with_reducible refine vbelow_drew ?_) | (with_reducible refine vbelow_drewN ?_ _) | (with_reducible refine vbelow_set ?_ (by first | exact Nat.le_refl _ | (dsimp only; omega) | omega)))) hb2
        go_wp2
        go_roundw
        case rel => exact ⟨k + 1, by omega, by go_num, by rw [hs]; rfl, HB2⟩
        case measure => simp [intOf]; omega
    · obtain rfl : k = n := by omega
      go_wp2
      go_ret
      exact ⟨rfl, HB1⟩
set_option maxHeartbeats 1000000 in
set_option maxRecDepth 100000 in
theorem live17 (w : World) (b : Nat) (P : Nat → Pl) (n : Nat) (hn : n ≤ 32) (ok : Ok P) (h : TabAt w b P n true) : Calls Try.prog 17 #[.pointer (some ⟨b, 0, none⟩)] w fun e w' => ∃ v, e = .returned v ∧ Kd.R (Kd.int .u32) 31 w' w.heap.size (fun _ => True) v (liveF P n) ∧ Below w.heap.size w w' := by
  go_enter Try.func17, Try.ntmps17
  go_wp2_with fail
  refine (row28 _ b P n hn h).mono ?_
  rintro e w1 ⟨rfl, hb1⟩
  go_wp2
  go_loopw [3, 9] (fun v3 v9 wr => ∃ k : Nat, k ≤ n ∧ v9 = .int .i64 k ∧ Kd.R (Kd.int .u32) 31 wr w.heap.size (fun _ => True) v3 (liveF P k) ∧ Below w.heap.size w wr) (fun _ v9 _ => n + 1 - (intOf v9).toNat)
  case atStart => exact ⟨0, Nat.zero_le _, rfl, Kd.R_nil _ _ _ _ _, hb1⟩
  case round =>
    obtain ⟨k, hk, rfl, HO, HB1⟩ := hrel
    by_cases hki : k < n
    · cases ht : (P k).t with
      | true =>
        have hs := liveF_yes P k ht
        have hl := liveF_le P k
        have T1 := h.below HB1
        have Q0 := T1.g k (by omega)
        have Q1 := T1.t k (by omega)
        have Q2 := T1.c k (by omega)
        have Q3 := T1.r k (by omega)
        have hk32 : (k : Int) < 32 := by omega
        have hk0 : (0 : Int) ≤ (k : Int) := by omega
        have hkn : (k : Int) < n := by omega
        have hlt1 : decide ((k : Int) < n) = true := decide_eq_true hkn
        rw [ht] at Q1
        obtain ⟨Ao, co, eo⟩ := Kd.R_slice HO
        subst eo
        go_wp2_with fail
        have HBx := HB1
        have hsz := HB1.size
        refine (handle30 _ b P n true k (by omega) (h.below (by repeat (first | (with_reducible exact Below.refl _ _) | (with_reducible exact HB1) | (with_reducible refine vbelow_alloc ?_ _) | (with_reducible refine vbelow_drew ?_) | (with_reducible refine vbelow_drewN ?_ _) | (with_reducible refine vbelow_set ?_ (by first | exact Nat.le_refl _ | (dsimp only; omega) | omega))))) (ok.r0 k) (ok.r1 k)).mono ?_
        rintro e w2 ⟨rfl, hb2⟩
        have HB2 : Below w.heap.size w w2 := vbelow_step (by repeat (first | (with_reducible exact Below.refl _ _) | (with_reducible exact HB1) | (with_reducible refine vbelow_alloc ?_ _) | (with_reducible refine vbelow_drew ?_) | (with_reducible refine vbelow_drewN ?_ _) | (with_reducible refine vbelow_set ?_ (by first | exact Nat.le_refl _ | (dsimp only; omega) | omega)))) hb2
        have HO2 : Kd.R (Kd.int .u32) 31 w2 w.heap.size (fun _ => True) (.slice Ao (liveF P k).length co) (liveF P k) := Kd.R_below (Kd.R_below HO (by repeat (first | (with_reducible exact Below.refl _ _) | (with_reducible refine vbelow_alloc ?_ _) | (with_reducible refine vbelow_drew ?_) | (with_reducible refine vbelow_set ?_ (by first | exact Nat.le_refl _ | (dsimp only; omega) | omega))))) hb2
        clear HO HB1 HBx Q0 Q1 Q2 Q3 T1
        go_wp2_with ((with_reducible refine gate_builtin (b := .append) (xs := #[.tmp 16, .tmp 20]) rfl ?_); at_builtin; refine Kd.R_append (Kd.int .u32) (w0 := w) w.heap.size rfl (.tmp 16) (.tmp 20) 28 31 (.int .u32 0) 4 rfl Try.underlying28 info31' rfl (by decide) (by omega) (.slice Ao (liveF P k).length co) (liveF P k) (handleR k (P k).r (P k).g).1 [.int .u32 (handleR k (P k).r (P k).g).1] (fun _ => True) (fun _ => False) rfl rfl ?aP (fun _ hk => hk.elim) ?aF ?aO ?aB ?aS ?aL ?_; (case aP => exact rfl); (case aB => exact HB2); (case aF => exact (fun _ _ => trivial)); (case aO => exact HO2); (case aS => exact HB2.size); (case aL => omega); intro v4 w4 ho hb4 hg4 hat4)
        go_roundw
        case rel => exact ⟨k + 1, by omega, by go_num, by rw [hs]; exact ho, hb4⟩
        case measure => simp [intOf]; omega
      | false =>
        have hs := liveF_no P k ht
        have T1 := h.below HB1
        have Q0 := T1.g k (by omega)
        have Q1 := T1.t k (by omega)
        have Q2 := T1.c k (by omega)
        have Q3 := T1.r k (by omega)
        have hk32 : (k : Int) < 32 := by omega
        have hk0 : (0 : Int) ≤ (k : Int) := by omega
        have hkn : (k : Int) < n := by omega
        have hlt1 : decide ((k : Int) < n) = true := decide_eq_true hkn
        rw [ht] at Q1
        obtain ⟨Ao, co, eo⟩ := Kd.R_slice HO
        subst eo
        have hsz := HB1.size
        go_wp2
        go_roundw
        case rel => exact ⟨k + 1, by omega, by go_num, by rw [hs]; exact Kd.R_below HO (by repeat (first | (with_reducible exact Below.refl _ _) | (with_reducible refine vbelow_alloc ?_ _) | (with_reducible refine vbelow_drew ?_) | (with_reducible refine vbelow_set ?_ (by first | exact Nat.le_refl _ | (dsimp only; omega) | omega)))), (by repeat (first | (with_reducible exact Below.refl _ _) | (with_reducible exact HB1) | (with_reducible refine vbelow_alloc ?_ _) | (with_reducible refine vbelow_drew ?_) | (with_reducible refine vbelow_drewN ?_ _) | (with_reducible refine vbelow_set ?_ (by first | exact Nat.le_refl _ | (dsimp only; omega) | omega))))⟩
        case measure => simp [intOf]; omega
    · obtain rfl : k = n := by omega
      obtain ⟨Ao, co, eo⟩ := Kd.R_slice HO
      subst eo
      go_wp2
      go_ret
      exact ⟨_, rfl, HO, HB1⟩
end Go.Proofs.Ytcpaakhmcpeagaa.Q
