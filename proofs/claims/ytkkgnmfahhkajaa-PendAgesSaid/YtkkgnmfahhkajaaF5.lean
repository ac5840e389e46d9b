/- Layer 18: where a number stands. -/
import Derived.Test.YtkkgnmfahhkajaaV
import Derived.Test.YtkkgnmfahhkajaaQx0
namespace Go.Proofs.Ytkkgnmfahhkajaa.Q
open Go.RowKit Go.Proofs.YtkkgnmfahhkajaaW.PrintWords Go.Proofs.YtkkgnmfahhkajaaW.PrintMore
set_option linter.unusedVariables false
set_option linter.unusedSimpArgs false
theorem w64 {x : Int} (h0 : -9223372036854775808 ≤ x) (h1 : x ≤ 9223372036854775807) : wrap64 x = x := by unfold wrap64; omega
set_option maxHeartbeats 1000000 in
set_option maxRecDepth 100000 in
theorem same44 (w : World) (nb : Nat) (o : S42) (n : Int) (hc : w.cell? ⟨nb, 0, none⟩ = some (.int .i64 n)) : Calls Try.prog 44 #[.agg #[.int .i64 (o).f0, .int .u8 (o).f1.f0, .int .u8 (o).f1.f1, .int .u8 (o).f1.f2, .int .u32 (o).f1.f3, .int .u64 (o).f1.f4, .int .i64 (o).f2, .int .i64 (o).f3, .int .i64 (o).f4, .int .u64 (o).f5.f0, .int .u64 (o).f5.f1, .int .u64 (o).f6], .pointer (some ⟨nb, 0, none⟩)] w fun e w' => e = .returned (.bool (decide (o.f0 = n))) ∧ Below w.heap.size w w' := by
  have hlt := World.block_lt_of_cell? _ _ hc
  have hc2 := vcell_alloc hc (.cells #[.int .i64 (o).f0, .int .u8 (o).f1.f0, .int .u8 (o).f1.f1, .int .u8 (o).f1.f2, .int .u32 (o).f1.f3, .int .u64 (o).f1.f4, .int .i64 (o).f2, .int .i64 (o).f3, .int .i64 (o).f4, .int .u64 (o).f5.f0, .int .u64 (o).f5.f1, .int .u64 (o).f6] 42)
  by_cases he : o.f0 = n
  · have h1 : decide (o.f0 = n) = true := decide_eq_true he
    have h2 : (o.f0 == n) = true := beq_iff_eq.2 he
    rw [h1]
    go_enter Try.func44, Try.ntmps44
    go_wp2
    go_ret
    exact ⟨rfl, (by repeat (first | (with_reducible exact Below.refl _ _) | (with_reducible refine vbelow_alloc ?_ _) | (with_reducible refine vbelow_drew ?_) | (with_reducible refine vbelow_drewN ?_ _) | (with_reducible refine vbelow_set ?_ (by first | exact Nat.le_refl _ | (dsimp only; omega) | omega))))⟩
  · have h1 : decide (o.f0 = n) = false := decide_eq_false he
    have h2 : (o.f0 == n) = false := beq_eq_false_iff_ne.2 he
    rw [h1]
    go_enter Try.func44, Try.ntmps44
    go_wp2
    go_ret
    exact ⟨rfl, (by repeat (first | (with_reducible exact Below.refl _ _) | (with_reducible refine vbelow_alloc ?_ _) | (with_reducible refine vbelow_drew ?_) | (with_reducible refine vbelow_drewN ?_ _) | (with_reducible refine vbelow_set ?_ (by first | exact Nat.le_refl _ | (dsimp only; omega) | omega))))⟩
set_option maxHeartbeats 1000000 in
set_option maxRecDepth 100000 in
theorem idx43_a (w : World) (nb : Nat) (n : Int) (A : Option Addr) (c : Nat) (l : List S42) (hl : Kd.C k42 w A l.length l) (hc : w.cell? ⟨nb, 0, none⟩ = some (.int .i64 n)) (i : Nat) (hi : i < l.length) (hf : ∀ k : Nat, k < i → (rd_T42 l (k : Int)).f0 ≠ n) (ht : (rd_T42 l (i : Int)).f0 = n) : Calls Try.prog 43 #[.slice A l.length c, .func (.func 44) #[] #[.pointer (some ⟨nb, 0, none⟩)]] w fun e w' => e = .returned (.int .i64 i) ∧ Below w.heap.size w w' := by
  have hmax : l.length ≤ 9223372036854775807 := hl.2.1
  go_enter Try.func43, Try.ntmps43
  go_wp2
  go_loopw [8] (fun v8 wr => ∃ k : Nat, k ≤ i ∧ v8 = .int .i64 k ∧ Below w.heap.size w wr) (fun v8 _ => i + 1 - (intOf v8).toNat)
  case atStart => exact ⟨0, Nat.zero_le _, rfl, (by repeat (first | (with_reducible exact Below.refl _ _) | (with_reducible refine vbelow_alloc ?_ _) | (with_reducible refine vbelow_drew ?_) | (with_reducible refine vbelow_drewN ?_ _) | (with_reducible refine vbelow_set ?_ (by first | exact Nat.le_refl _ | (dsimp only; omega) | omega))))⟩
  case round =>
    obtain ⟨k, hk, rfl, HB1⟩ := hrel
    by_cases hki : k < i
    · have hk0 : (0 : Int) ≤ (k : Int) := by omega
      have hkn : (k : Int) < (l.length : Int) := by omega
      have hlt1 : decide ((k : Int) < (l.length : Int)) = true := decide_eq_true hkn
      obtain ⟨ad, rfl, Q0, Q1, Q2, Q3, Q4, Q5, Q6, Q7, Q8, Q9, Q10, Q11⟩ := at_T42 (Kd.C_below hl HB1) (k : Int) hk0 hkn
      rw [Int.toNat_natCast] at Q0 Q1 Q2 Q3 Q4 Q5 Q6 Q7 Q8 Q9 Q10 Q11
      obtain ⟨o, ho⟩ : ∃ o, o = rd_T42 l (k : Int) := ⟨_, rfl⟩
      rw [← ho] at Q0 Q1 Q2 Q3 Q4 Q5 Q6 Q7 Q8 Q9 Q10 Q11
      have Ho := Lib.hid ho
      clear ho
      go_wp2_with fail
      refine (same44 _ nb o n (vcell HB1 hc)).mono ?_
      rw [show decide (o.f0 = n) = false from decide_eq_false (by rw [Ho.out]; exact hf k hki)]
      rintro e w2 ⟨rfl, hb2⟩
      have HB2 : Below w.heap.size w w2 := vbelow_step HB1 hb2
      go_wp2
      go_roundw
      case rel => exact ⟨k + 1, by omega, by go_num, HB2⟩
      case measure => simp [intOf]; omega
    · obtain rfl : k = i := by omega
      have hk0 : (0 : Int) ≤ (k : Int) := by omega
      have hkn : (k : Int) < (l.length : Int) := by omega
      have hlt1 : decide ((k : Int) < (l.length : Int)) = true := decide_eq_true hkn
      obtain ⟨ad, rfl, Q0, Q1, Q2, Q3, Q4, Q5, Q6, Q7, Q8, Q9, Q10, Q11⟩ := at_T42 (Kd.C_below hl HB1) (k : Int) hk0 hkn
      rw [Int.toNat_natCast] at Q0 Q1 Q2 Q3 Q4 Q5 Q6 Q7 Q8 Q9 Q10 Q11
      obtain ⟨o, ho⟩ : ∃ o, o = rd_T42 l (k : Int) := ⟨_, rfl⟩
      rw [← ho] at Q0 Q1 Q2 Q3 Q4 Q5 Q6 Q7 Q8 Q9 Q10 Q11
      have Ho := Lib.hid ho
      clear ho
      go_wp2_with fail
      refine (same44 _ nb o n (vcell HB1 hc)).mono ?_
      rw [show decide (o.f0 = n) = true from decide_eq_true (by rw [Ho.out]; exact ht)]
      rintro e w2 ⟨rfl, hb2⟩
      have HB2 : Below w.heap.size w w2 := vbelow_step HB1 hb2
      go_wp2
      go_ret
      exact ⟨rfl, HB2⟩
set_option maxHeartbeats 1000000 in
set_option maxRecDepth 100000 in
theorem idx43_b (w : World) (nb : Nat) (n : Int) (A : Option Addr) (c : Nat) (l : List S42) (hl : Kd.C k42 w A l.length l) (hc : w.cell? ⟨nb, 0, none⟩ = some (.int .i64 n)) (hf : ∀ k : Nat, k < l.length → (rd_T42 l (k : Int)).f0 ≠ n) : Calls Try.prog 43 #[.slice A l.length c, .func (.func 44) #[] #[.pointer (some ⟨nb, 0, none⟩)]] w fun e w' => e = .returned (.int .i64 (-1)) ∧ Below w.heap.size w w' := by
  have hmax : l.length ≤ 9223372036854775807 := hl.2.1
  go_enter Try.func43, Try.ntmps43
  go_wp2
  go_loopw [8] (fun v8 wr => ∃ k : Nat, k ≤ l.length ∧ v8 = .int .i64 k ∧ Below w.heap.size w wr) (fun v8 _ => l.length + 1 - (intOf v8).toNat)
  case atStart => exact ⟨0, Nat.zero_le _, rfl, (by repeat (first | (with_reducible exact Below.refl _ _) | (with_reducible refine vbelow_alloc ?_ _) | (with_reducible refine vbelow_drew ?_) | (with_reducible refine vbelow_drewN ?_ _) | (with_reducible refine vbelow_set ?_ (by first | exact Nat.le_refl _ | (dsimp only; omega) | omega))))⟩
  case round =>
    obtain ⟨k, hk, rfl, HB1⟩ := hrel
    by_cases hki : k < l.length
    · have hk0 : (0 : Int) ≤ (k : Int) := by omega
      have hkn : (k : Int) < (l.length : Int) := by omega
      have hlt1 : decide ((k : Int) < (l.length : Int)) = true := decide_eq_true hkn
      obtain ⟨ad, rfl, Q0, Q1, Q2, Q3, Q4, Q5, Q6, Q7, Q8, Q9, Q10, Q11⟩ := at_T42 (Kd.C_below hl HB1) (k : Int) hk0 hkn
      rw [Int.toNat_natCast] at Q0 Q1 Q2 Q3 Q4 Q5 Q6 Q7 Q8 Q9 Q10 Q11
      obtain ⟨o, ho⟩ : ∃ o, o = rd_T42 l (k : Int) := ⟨_, rfl⟩
      rw [← ho] at Q0 Q1 Q2 Q3 Q4 Q5 Q6 Q7 Q8 Q9 Q10 Q11
      have Ho := Lib.hid ho
      clear ho
      go_wp2_with fail
      refine (same44 _ nb o n (vcell HB1 hc)).mono ?_
      rw [show decide (o.f0 = n) = false from decide_eq_false (by rw [Ho.out]; exact hf k hki)]
      rintro e w2 ⟨rfl, hb2⟩
      have HB2 : Below w.heap.size w w2 := vbelow_step HB1 hb2
      go_wp2
      go_roundw
      case rel => exact ⟨k + 1, by omega, by go_num, HB2⟩
      case measure => simp [intOf]; omega
    · obtain rfl : k = l.length := by omega
      go_wp2
      go_ret
      exact ⟨rfl, HB1⟩
/-- Where a number stands; below 0: nowhere. -/
def placeF (l : List S42) (n : Int) : Int := match l.findIdx? (fun o => decide (o.f0 = n)) with
  | some i => (i : Int)
  | none => -1
theorem rd_is (l : List S42) (k : Nat) (hk : k < l.length) : rd_T42 l (k : Int) = l[k] := by
  unfold rd_T42
  rw [Int.toNat_natCast, List.getD_eq_getElem?_getD, List.getElem?_eq_getElem hk]; rfl
theorem idx43 (w : World) (nb : Nat) (n : Int) (A : Option Addr) (c : Nat) (l : List S42) (hl : Kd.C k42 w A l.length l) (hc : w.cell? ⟨nb, 0, none⟩ = some (.int .i64 n)) : Calls Try.prog 43 #[.slice A l.length c, .func (.func 44) #[] #[.pointer (some ⟨nb, 0, none⟩)]] w fun e w' => e = .returned (.int .i64 (placeF l n)) ∧ Below w.heap.size w w' := by
  unfold placeF
  cases h : l.findIdx? (fun o => decide (o.f0 = n)) with
  | some i =>
    rw [List.findIdx?_eq_some_iff_getElem] at h
    obtain ⟨hi, h1, h2⟩ := h
    exact idx43_a w nb n A c l hl hc i hi (fun k hk => by rw [rd_is l k (by omega)]; simpa using h2 k hk) (by rw [rd_is l i hi]; simpa using h1)
  | none =>
    rw [List.findIdx?_eq_none_iff] at h
    exact idx43_b w nb n A c l hl hc (fun k hk => by rw [rd_is l k hk]; simpa using h l[k] (List.getElem_mem hk))
def pend_place.f (a0_0 : Int) (a0_1 : Int) (l0_2 : List S42) (a1 : Int) : Option Int := some (placeF l0_2 a1)
set_option maxHeartbeats 1000000 in
set_option maxRecDepth 100000 in
theorem pend_place.calls (a0_0 : Int) (a0_1 : Int) (A0_2 : Option Addr) (c0_2 : Nat) (l0_2 : List S42) (a1 : Int) (r : Int) (w : World) (hr0_2 : Kd.C k42 w A0_2 l0_2.length l0_2) (hc0_2 : l0_2.length ≤ c0_2) (h : pend_place.f a0_0 a0_1 l0_2 a1 = some r) : Calls Try.prog 29 #[.agg #[.int .i64 a0_0, .int .i64 a0_1, .slice A0_2 l0_2.length c0_2], .int .i64 a1] w fun e w' => e = .returned (.int .i64 r) ∧ Below w.heap.size w w' := by
  obtain rfl := Option.some.inj h
  go_enter Try.func29, Try.ntmps29
  go_wp2_with fail
  refine (idx43 _ (w.heap.size + 1) a1 A0_2 c0_2 l0_2 (Kd.C_below (Kd.C_below hr0_2 ((Below.refl _ _).alloc (Nat.le_refl _) _)) ((Below.refl _ _).alloc (Nat.le_refl _) _)) (vcell_new' (by rw [World.size_alloc]) rfl)).mono ?_
  rintro e w1 ⟨rfl, hb1⟩
  have HB1 : Below w.heap.size w w1 := vbelow_step (by repeat (first | (with_reducible exact Below.refl _ _) | (with_reducible refine vbelow_alloc ?_ _) | (with_reducible refine vbelow_drew ?_) | (with_reducible refine vbelow_drewN ?_ _) | (with_reducible refine vbelow_set ?_ (by first | exact Nat.le_refl _ | (dsimp only; omega) | omega)))) hb1
  go_wp2
  go_ret
  exact ⟨rfl, HB1⟩
end Go.Proofs.Ytkkgnmfahhkajaa.Q
