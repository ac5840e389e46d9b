/- Layer 11: a spent place; the walk of the law CapabSpent. -/
import Derived.Test.YtcpaakhmcpeagaaC12
namespace Go.Proofs.Ytcpaakhmcpeagaa.Q
open Go.RowKit Go.Proofs.YtcpaakhmcpeagaaW.PrintWords Go.Proofs.YtcpaakhmcpeagaaW.PrintMore
set_option linter.unusedVariables false
set_option linter.unusedSimpArgs false
/-- The one place, at its k-th generation: free, taken. -/
def sP (k : Nat) : Nat → Pl := upd freshP 0 ⟨k, false, 0, 0⟩
def sT (k : Nat) : Nat → Pl := upd freshP 0 ⟨k, true, 0, 1⟩
theorem sP_1 : sP 1 = freshP := by
  funext i
  unfold sP upd freshP
  split <;> rfl
theorem sP_ok (k : Nat) (h0 : 1 ≤ k) (h1 : k ≤ 65536) : Ok (sP k) := freshP_ok.put 0 _ (by decide : (0 : Int) ≤ 0) (by decide : (0 : Int) ≤ 255) (by show (1 : Int) ≤ k; omega) (by show (k : Int) ≤ 65536; omega) (fun h => by cases h)
theorem sT_ok (k : Nat) (h0 : 1 ≤ k) (h1 : k ≤ 65535) : Ok (sT k) := freshP_ok.put 0 _ (by decide : (0 : Int) ≤ 1) (by decide : (1 : Int) ≤ 255) (by show (1 : Int) ≤ k; omega) (by show (k : Int) ≤ 65536; omega) (fun _ => by show (k : Int) ≤ 65535; omega)
theorem sMint (k : Nat) (h1 : k ≤ 65535) : mintF (sP k) 1 0 1 = (256 + 65536 * (k : Int), 0, sT k) := by
  have hf : freeF (sP k) 1 = some 0 := by
    unfold freeF
    have ho : opn (sP k 0) = true := by
      unfold opn sP
      rw [upd_same]
      simp; omega
    simp [List.range_succ, ho]
  unfold mintF
  rw [if_neg (by decide), hf]
  have e0 : sP k 0 = ⟨k, false, 0, 0⟩ := upd_same _ _ _
  simp only [e0]
  have eh : handleR ((0 : Nat) : Int) 1 (k : Int) = (256 + 65536 * (k : Int), 0) := by
    rw [handle_in _ _ _ (by omega) (by omega) (by omega) (by omega) (by omega) (by omega)]
    all_goals (first | rfl | (congr 1; omega))
  rw [eh]
  have eu : upd (sP k) 0 ⟨k, true, 0, 1⟩ = sT k := upd_upd _ _ _ _
  rw [eu]
theorem sAt (k : Nat) (h0 : 1 ≤ k) (h1 : k ≤ 65535) : atF (sT k) 1 (256 + 65536 * (k : Int)) = 0 := by
  unfold atF
  have e : ((256 + 65536 * (k : Int)) % 256).toNat = 0 := by omega
  rw [e]
  have e0 : sT k 0 = ⟨k, true, 0, 1⟩ := upd_same _ _ _
  rw [if_pos]
  · rfl
  · refine ⟨by omega, by rw [e0], ?_⟩
    unfold hd
    rw [e0]
    show (handleR ((0 : Nat) : Int) 1 (k : Int)).1 = _
    rw [handle_in _ _ _ (by omega) (by omega) (by omega) (by omega) (by omega) (by omega)]
    show ((0 : Nat) : Int) + 256 * 1 + 65536 * (k : Int) = _
    omega
theorem sDrop (k : Nat) (h0 : 1 ≤ k) (h1 : k ≤ 65535) : dropF (sT k) 1 (256 + 65536 * (k : Int)) = (0, sP (k + 1)) := by
  unfold dropF
  rw [sAt k h0 h1, if_neg (by decide)]
  have e0 : sT k (0 : Int).toNat = ⟨k, true, 0, 1⟩ := upd_same _ _ _
  rw [e0]
  have eu : upd (sT k) (0 : Int).toNat ⟨(k : Int) + 1, false, 0, 0⟩ = sP (k + 1) := by
    have := upd_upd freshP 0 ⟨k, true, 0, 1⟩ ⟨(k : Int) + 1, false, 0, 0⟩
    refine this.trans ?_
    unfold sP
    rw [Int.natCast_succ]
  show (0, upd (sT k) (0 : Int).toNat ⟨(k : Int) + 1, false, 0, 0⟩) = _
  rw [eu]
theorem sFull : mintF (sP 65536) 1 0 1 = (0, 110, sP 65536) := by rfl
theorem sLeft : leftF (sP 65536) 1 = 0 := by rfl
theorem sLive : liveF (sP 65536) 1 = [] := by rfl
set_option maxHeartbeats 1000000 in
set_option maxRecDepth 100000 in
theorem spent7_n (w : World) : Calls Try.prog 7 #[.bool false] w fun e w' => e = .returned (.bool true) ∧ Below w.heap.size w w' := by
  go_enter Try.func7, Try.ntmps7
  go_wp2_with fail
  refine (new9' _ 1 (by decide)).mono ?_
  rintro e w1 ⟨rfl, T1, hb1⟩
  go_wp2_with fail
  refine (alive10 _).mono ?_
  rintro e w2 ⟨rfl, hb2⟩
  have HB2 : Below w.heap.size w w2 := vbelow_step hb1 hb2
  go_wp2
  go_ret
  exact ⟨rfl, HB2⟩
set_option maxHeartbeats 1000000 in
set_option maxRecDepth 100000 in
theorem spent7_y (w : World) : Calls Try.prog 7 #[.bool true] w fun e w' => e = .returned (.bool true) ∧ Below w.heap.size w w' := by
  go_enter Try.func7, Try.ntmps7
  go_wp2_with fail
  refine (new9' _ 1 (by decide)).mono ?_
  rintro e w1 ⟨rfl, T1, hb1⟩
  go_wp2
  go_loopw [5] (fun v5 wr => ∃ k : Nat, 1 ≤ k ∧ k ≤ 65536 ∧ v5 = .int .i64 k ∧ TabAt wr w.heap.size (sP k) 1 true ∧ Below w.heap.size w wr) (fun v5 _ => 65537 - (intOf v5).toNat)
  case atStart => exact ⟨1, Nat.le_refl _, by omega, rfl, by rw [sP_1]; exact T1, hb1⟩
  case round =>
    obtain ⟨k, hk1, hk, rfl, T2, HB1⟩ := hrel
    by_cases hlt : k ≤ 65535
    · have hd1 : decide ((k : Int) ≤ 65535) = true := decide_eq_true (by omega)
      have hw1 : wrap64 (65536 * (k : Int)) = 65536 * (k : Int) := w64 (by omega) (by omega)
      have hw2 : wrap64 (256 + 65536 * (k : Int)) = 256 + 65536 * (k : Int) := w64 (by omega) (by omega)
      have hw3 : (256 + 65536 * (k : Int)) % 4294967296 = 256 + 65536 * (k : Int) := by omega
      have hx0 : (0 : Int) ≤ 256 + 65536 * (k : Int) := by omega
      have hx1 : (256 + 65536 * (k : Int)) < 4294967296 := by omega
      have hw4 : wrap64 ((k : Int) + 1) = ((k + 1 : Nat) : Int) := (w64 (by omega) (by omega)).trans (by omega)
      go_wp2_with fail
      refine (mint11 _ w.heap.size (sP k) 1 (by decide) (sP_ok k hk1 hk) T2 0 1 (by decide) (by decide)).mono ?_
      rw [sMint k hlt]
      rintro e w3 ⟨rfl, T3, O3⟩
      have HB3 : Below w.heap.size w w3 := Below.only HB1 (Nat.le_refl _) O3
      go_wp2_with fail
      refine (drop12 _ w.heap.size (sT k) 1 (by decide) (sT_ok k hk1 hlt) T3 _ hx0 hx1).mono ?_
      rw [sDrop k hk1 hlt]
      rintro e w4 ⟨rfl, T4, O4⟩
      have HB4 : Below w.heap.size w w4 := Below.only HB3 (Nat.le_refl _) O4
      go_wp2
      go_roundw
      case rel => exact ⟨k + 1, by omega, by omega, by go_num, T4, HB4⟩
      case measure => simp [intOf]; omega
    · obtain rfl : k = 65536 := by omega
      go_wp2_with fail
      refine (mint11 _ w.heap.size (sP 65536) 1 (by decide) (sP_ok 65536 (by decide) (by decide)) T2 0 1 (by decide) (by decide)).mono ?_
      rw [sFull]
      rintro e w3 ⟨rfl, T3, O3⟩
      have HB3 : Below w.heap.size w w3 := Below.only HB1 (Nat.le_refl _) O3
      go_wp2_with fail
      refine (left20 _ w.heap.size (sP 65536) 1 (by decide) (sP_ok 65536 (by decide) (by decide)) T3).mono ?_
      rw [sLeft]
      rintro e w4 ⟨rfl, hb4⟩
      have HB4 : Below w.heap.size w w4 := vbelow_step HB3 hb4
      go_wp2_with fail
      refine (live17 _ w.heap.size (sP 65536) 1 (by decide) (sP_ok 65536 (by decide) (by decide)) (T3.below hb4)).mono ?_
      rw [sLive]
      rintro e w5 ⟨v, rfl, HR5, hb5⟩
      obtain ⟨Ao, co, rfl⟩ := Kd.R_slice HR5
      have HB5 : Below w.heap.size w w5 := vbelow_step HB4 hb5
      go_wp2_with fail
      refine (alive10 _).mono ?_
      rintro e w6 ⟨rfl, hb6⟩
      have HB6 : Below w.heap.size w w6 := vbelow_step HB5 hb6
      go_wp2
      go_ret
      exact ⟨rfl, HB6⟩
theorem spent7 (w : World) (a : Bool) : Calls Try.prog 7 #[.bool a] w fun e w' => e = .returned (.bool true) ∧ Below w.heap.size w w' := by
  cases a
  · exact spent7_n w
  · exact spent7_y w
end Go.Proofs.Ytcpaakhmcpeagaa.Q
