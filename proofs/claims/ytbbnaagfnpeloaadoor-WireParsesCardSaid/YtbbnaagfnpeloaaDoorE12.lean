/- Layer 3: bytes as a row's argument; the first four hundred of them; the walk of the law WireJust. -/
import Derived.Test.YtbbnaagfnpeloaaDoorE11
import Derived.Test.YtbbnaagfnpeloaaDoorE4
import Derived.ChangeSlices
namespace Go.Proofs.YtbbnaagfnpeloaaDoor.Q
open Go.RowKit Go.Proofs.YtbbnaagfnpeloaaDoorW.PrintWords Go.Proofs.YtbbnaagfnpeloaaDoorW.PrintMore
set_option linter.unusedVariables false
set_option linter.unusedSimpArgs false

open Go.ChangeShapes Go.WideShapes
theorem open_bytes {H : Type} {enc : TypeId × Value → H} {w : World} {base : Nat} {spare : Nat → Bool} {held : Bool} {a : Option Addr} {len cap : Nat} {d : DataW H} {p : List MemPlace} (h : DataW.Trod enc Tryd.prog w base spare held 27 (.slice a len cap) d p) :
    len ≤ 9223372036854775807 ∧ len ≤ cap ∧ ∃ xs : List Int, (Kd.int .u8).C w a len xs ∧ ∀ x ∈ xs, 0 ≤ x ∧ x < 256 := by
  obtain ⟨fuel, hf⟩ := h
  rcases open_ints Tryd.underlying27 Tryd.underlying5 (by kernel_rfl) hf with ⟨hcs, _⟩ | ⟨ad, l, c, zs, hcs, _, hl, hm, hz, _, hcell, hwf⟩
  · simp [Value.cells] at hcs
    obtain ⟨rfl, rfl, rfl⟩ := hcs
    exact ⟨by omega, by omega, [], Kd.C_of_reads (enc := Value.int .u8) (d := (0 : Int)) ⟨rfl, by omega, fun h => absurd h (by omega)⟩, by simp⟩
  · simp [Value.cells] at hcs
    obtain ⟨rfl, rfl, rfl⟩ := hcs
    unfold maxLen at hm
    have hle : len ≤ zs.length := by rw [hz]; split <;> omega
    refine ⟨by omega, hl, zs.take len, Kd.C_of_reads (enc := Value.int .u8) (d := (0 : Int)) ⟨by simp; omega, by omega, fun _ => ⟨ad, rfl, fun j hj => ?_⟩⟩, fun x hx => bd_u8 (hwf x (List.mem_of_mem_take hx))⟩
    rw [hcell j (by omega)]
    simp [List.getD, List.getElem?_take, hj]
theorem C_len {w : World} {A : Option Addr} {n : Nat} {xs : List Int} (h : (Kd.int .u8).C w A n xs) : xs.length = n := (Kd.reads_of_C (enc := Value.int .u8) (d := (0 : Int)) (h1 := fun _ => rfl) h).1
theorem C_take {w : World} {A : Option Addr} {n : Nat} {xs : List Int} (h : (Kd.int .u8).C w A n xs) (hn : 400 ≤ n) : (Kd.int .u8).C w A 400 (xs.take 400) := by
  have hr := Kd.reads_of_C (enc := Value.int .u8) (d := (0 : Int)) (h1 := fun _ => rfl) h
  refine Kd.C_of_reads (enc := Value.int .u8) (d := (0 : Int)) ⟨?_, by omega, fun _ => ?_⟩
  · have h_ := hr.1; simp; omega
  · obtain ⟨ad, e, hc⟩ := hr.2.2 (by omega)
    refine ⟨ad, e, fun j hj => ?_⟩
    rw [hc j (by omega)]
    simp [List.getD, List.getElem?_take, hj]

set_option maxHeartbeats 1000000 in
set_option maxRecDepth 100000 in
theorem cut19_s (A : Option Addr) (n c : Nat) (hn : n ≤ 400) (w : World) : Calls Tryd.prog 19 #[.slice A n c] w fun e w' => e = .returned (.slice A n c) ∧ Below w.heap.size w w' := by
  have hb : decide (((n : Nat) : Int) > 400) = false := by rw [decide_eq_false_iff_not]; omega
  go_enter Tryd.func19, Tryd.ntmps19
  go_wp2
  go_ret
  exact ⟨rfl, (by repeat (first | (with_reducible exact Below.refl _ _) | (with_reducible refine vbelow_alloc ?_ _) | (with_reducible refine vbelow_drew ?_) | (with_reducible refine vbelow_drewN ?_ _) | (with_reducible refine vbelow_set ?_ (by first | exact Nat.le_refl _ | (dsimp only; omega) | omega))))⟩

set_option maxHeartbeats 1000000 in
set_option maxRecDepth 100000 in
theorem cut19_l (A : Option Addr) (n c : Nat) (hn : 400 < n) (hc : n ≤ c) (w : World) : Calls Tryd.prog 19 #[.slice A n c] w fun e w' => e = .returned (.slice A 400 c) ∧ Below w.heap.size w w' := by
  have hb : decide (((n : Nat) : Int) > 400) = true := by rw [decide_eq_true_eq]; omega
  obtain ⟨i5, hi5, _, _, _⟩ := info_parts info5
  have hs := cut_to (P := Tryd.prog) 27 5 .i64 Tryd.underlying27 hi5 A n c 400 (by omega) (by omega) hc
  have e400 : (400 : Int).toNat = 400 := rfl
  rw [e400] at hs
  clear hi5
  go_enter Tryd.func19, Tryd.ntmps19
  go_wp2
  go_ret
  exact ⟨rfl, (by repeat (first | (with_reducible exact Below.refl _ _) | (with_reducible refine vbelow_alloc ?_ _) | (with_reducible refine vbelow_drew ?_) | (with_reducible refine vbelow_drewN ?_ _) | (with_reducible refine vbelow_set ?_ (by first | exact Nat.le_refl _ | (dsimp only; omega) | omega))))⟩

/-- The bytes that a law looks at. -/
theorem cut19 (A : Option Addr) (n c : Nat) (xs : List Int) (hc : n ≤ c) (w : World) (hC : (Kd.int .u8).C w A n xs) (hx : ∀ x ∈ xs, 0 ≤ x ∧ x < 256) :
    ∃ (m : Nat) (ys : List Int), m ≤ c ∧ m ≤ 400 ∧ (Kd.int .u8).C w A m ys ∧ (∀ x ∈ ys, 0 ≤ x ∧ x < 256) ∧ ∀ W : World, Calls Tryd.prog 19 #[.slice A n c] W fun e w' => e = .returned (.slice A m c) ∧ Below W.heap.size W w' := by
  by_cases h : n ≤ 400
  · exact ⟨n, xs, hc, h, hC, hx, fun W => cut19_s A n c h W⟩
  · exact ⟨400, xs.take 400, by omega, by omega, C_take hC (by omega), fun x hm => hx x (List.mem_of_mem_take hm), fun W => cut19_l A n c (by omega) hc W⟩
/-- Sixteen bytes, one by one. -/
theorem list16 (ys : List Int) (h : ys.length = 16) : ∃ x0 x1 x2 x3 x4 x5 x6 x7 x8 x9 x10 x11 x12 x13 x14 x15 : Int, ys = [x0, x1, x2, x3, x4, x5, x6, x7, x8, x9, x10, x11, x12, x13, x14, x15] := by
  match ys, h with
  | [x0, x1, x2, x3, x4, x5, x6, x7, x8, x9, x10, x11, x12, x13, x14, x15], _ => exact ⟨x0, x1, x2, x3, x4, x5, x6, x7, x8, x9, x10, x11, x12, x13, x14, x15, rfl⟩

end Go.Proofs.YtbbnaagfnpeloaaDoor.Q
