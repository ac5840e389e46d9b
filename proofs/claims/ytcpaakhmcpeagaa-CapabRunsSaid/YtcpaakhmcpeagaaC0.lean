/- Layer 11, plain: handles and their parts. -/
import Derived.Test.YtcpaakhmcpeagaaQx1
import Derived.Test.YtcpaakhmcpeagaaQx2
import Derived.Laws.BitsLemmas
namespace Go.Proofs.Ytcpaakhmcpeagaa.Q
open Go.RowKit Go.Proofs.YtcpaakhmcpeagaaW.PrintWords Go.Proofs.YtcpaakhmcpeagaaW.PrintMore
set_option linter.unusedVariables false
set_option linter.unusedSimpArgs false
theorem w64 {x : Int} (h0 : -9223372036854775808 ≤ x) (h1 : x ≤ 9223372036854775807) : wrap64 x = x := by unfold wrap64; omega
theorem wraps_u32 (n : Int) (h0 : 0 ≤ n) (h1 : n < 2 ^ 32) : IntKind.u32.wrap n = n := by rw [IntKind.wrap_u32]; omega
theorem or_add (k : IntKind) (j : Nat) (hj : j ≤ k.bits) (hk : ∀ n : Int, 0 ≤ n → n < 2 ^ j → k.wrap n = n) (i : Nat) (hi : i ≤ j) (x y : Int) (hx0 : 0 ≤ x) (hx : x < 2 ^ i) (hy0 : 0 ≤ y) (hy : y % 2 ^ i = 0) (hy1 : y < 2 ^ j) : Go.bits .or k x y = x + y := by
  have hx1 : x < 2 ^ j := by
    have : (2 : Int) ^ i ≤ 2 ^ j := by exact_mod_cast Nat.pow_le_pow_right (by decide) hi
    omega
  have hc : Go.bits .or k x y = Go.bits .or k y x := by
    obtain ⟨a, rfl⟩ := Int.eq_ofNat_of_zero_le hx0
    obtain ⟨b, rfl⟩ := Int.eq_ofNat_of_zero_le hy0
    have ha : a < 2 ^ j := by exact_mod_cast hx1
    have hb : b < 2 ^ j := by exact_mod_cast hy1
    rw [(bits_nat k j hj hk a b ha hb).2, (bits_nat k j hj hk b a hb ha).2, Nat.or_comm]
  rw [hc, bits_join k j hj hk i y x hy0 hy hy1 hx0 hx hx1]
  omega
/-- A handle of its parts, and the error. -/
def handleR (a b c : Int) : Int × Int := if 0 ≤ a ∧ a ≤ 255 ∧ 0 ≤ b ∧ b ≤ 255 ∧ 0 ≤ c ∧ c ≤ 65535 then (a + 256 * b + 65536 * c, 0) else (0, 30)
theorem or32 (i : Nat) (hi : i ≤ 32) (x y : Int) (hx0 : 0 ≤ x) (hx : x < 2 ^ i) (hy0 : 0 ≤ y) (hy : y % 2 ^ i = 0) (hy1 : y < 2 ^ 32) : Go.bits .or .u32 x y = x + y := or_add .u32 32 (by decide) wraps_u32 i hi x y hx0 hx hy0 hy hy1
theorem handle_eq (a b c : Int) : wire_Handle.f a b c = some (handleR a b c) := by
  unfold wire_Handle.f handleR
  by_cases h : 0 ≤ a ∧ a ≤ 255 ∧ 0 ≤ b ∧ b ≤ 255 ∧ 0 ≤ c ∧ c ≤ 65535
  · obtain ⟨h1, h2, h3, h4, h5, h6⟩ := h
    rw [if_neg (by omega), if_neg (by omega), if_neg (by omega), if_neg (by omega), if_neg (by omega), if_neg (by omega), if_pos ⟨h1, h2, h3, h4, h5, h6⟩]
    rw [show a % 4294967296 = a by omega, show b % 4294967296 * 256 % 4294967296 = b * 256 by omega, show c % 4294967296 * 65536 % 4294967296 = c * 65536 by omega]
    rw [or32 8 (by decide) a (b * 256) h1 (by omega) (by omega) (by omega) (by omega), or32 16 (by decide) (a + b * 256) (c * 65536) (by omega) (by omega) (by omega) (by omega) (by omega)]
    rw [show a + b * 256 + c * 65536 = a + 256 * b + 65536 * c by omega]
  · rw [if_neg h]
    repeat' split
    all_goals first | rfl | omega
theorem refHandle_eq (a b c : Int) : rampartref03_Handle.f a b c = some (handleR a b c) := by
  unfold rampartref03_Handle.f handleR
  by_cases h : 0 ≤ a ∧ a ≤ 255 ∧ 0 ≤ b ∧ b ≤ 255 ∧ 0 ≤ c ∧ c ≤ 65535
  · obtain ⟨h1, h2, h3, h4, h5, h6⟩ := h
    rw [if_neg (by omega), if_neg (by omega), if_neg (by omega), if_neg (by omega), if_neg (by omega), if_neg (by omega), if_pos ⟨h1, h2, h3, h4, h5, h6⟩]
    rw [w64 (x := 256 * b) (by omega) (by omega), w64 (x := a + 256 * b) (by omega) (by omega), w64 (x := 65536 * c) (by omega) (by omega), w64 (x := a + 256 * b + 65536 * c) (by omega) (by omega)]
    rw [show (a + 256 * b + 65536 * c) % 4294967296 = a + 256 * b + 65536 * c by omega]
  · rw [if_neg h]
    repeat' split
    all_goals first | rfl | omega
theorem and255 (x : Int) (h0 : 0 ≤ x) (h1 : x < 4294967296) : Go.bits .and .u32 x 255 = x % 256 := bits_mask .u32 32 (by decide) wraps_u32 8 (by decide) x h0 (by omega)
theorem parts_eq (h : Int) (h0 : 0 ≤ h) (h1 : h < 4294967296) : wire_Parts.f h = some (h % 256, h / 256 % 256, h / 65536) := by
  unfold wire_Parts.f
  rw [and255 h h0 h1, and255 (h / 256) (by omega) (by omega), w64 (by omega) (by omega), w64 (by omega) (by omega), w64 (by omega) (by omega)]
theorem handle_in (a b c : Int) (h1 : 0 ≤ a) (h2 : a ≤ 255) (h3 : 0 ≤ b) (h4 : b ≤ 255) (h5 : 0 ≤ c) (h6 : c ≤ 65535) : handleR a b c = (a + 256 * b + 65536 * c, 0) := if_pos ⟨h1, h2, h3, h4, h5, h6⟩
theorem parts37 (w : World) (h : Int) (h0 : 0 ≤ h) (h1 : h < 4294967296) : Calls Try.prog 37 #[.int .u32 h] w fun e w' => e = .returned (.tuple #[.int .i64 (h % 256), .int .i64 (h / 256 % 256), .int .i64 (h / 65536)]) ∧ Below w.heap.size w w' :=
  (wire_Parts.calls h _ _ _ w (parts_eq h h0 h1)).mono fun _ _ h => ⟨h.1, h.2.below⟩
theorem handle36 (w : World) (a b c : Int) : Calls Try.prog 36 #[.int .i64 a, .int .i64 b, .int .i64 c] w fun e w' => e = .returned (.tuple #[.int .u32 (handleR a b c).1, .int .i64 (handleR a b c).2]) ∧ Below w.heap.size w w' :=
  (wire_Handle.calls a b c _ _ w (handle_eq a b c)).mono fun _ _ h => ⟨h.1, h.2.below⟩
theorem open29 (w : World) (g : Int) (t : Bool) (c r : Int) : Calls Try.prog 29 #[.agg #[.int .i64 g, .bool t, .int .i64 c, .int .u8 r]] w fun e w' => e = .returned (.bool (!t && decide (g ≤ 65535))) ∧ Below w.heap.size w w' := by
  have e : capab_place_open.f g t c r = some (!t && decide (g ≤ 65535)) := by unfold capab_place_open.f; cases t <;> simp
  exact (capab_place_open.calls g t c r _ w e).mono fun _ _ h => ⟨h.1, h.2⟩
end Go.Proofs.Ytcpaakhmcpeagaa.Q
