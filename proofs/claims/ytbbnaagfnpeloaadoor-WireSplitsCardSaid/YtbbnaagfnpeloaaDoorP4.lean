/- Layer 3, plain: handles and their parts. -/
import Derived.Test.YtbbnaagfnpeloaaDoorP2
namespace Go.Proofs.YtbbnaagfnpeloaaDoor.Q
open Go.RowKit Go.Proofs.YtbbnaagfnpeloaaDoorW.PrintWords Go.Proofs.YtbbnaagfnpeloaaDoorW.PrintMore
set_option linter.unusedVariables false
set_option linter.unusedSimpArgs false
/-- A handle of its parts, and the error. -/
def handleR (a b c : Int) : Int × Int := if 0 ≤ a ∧ a ≤ 255 ∧ 0 ≤ b ∧ b ≤ 255 ∧ 0 ≤ c ∧ c ≤ 65535 then (a + 256 * b + 65536 * c, 0) else (0, 30)
theorem or32 (i : Nat) (hi : i ≤ 32) (x y : Int) (hx0 : 0 ≤ x) (hx : x < 2 ^ i) (hy0 : 0 ≤ y) (hy : y % 2 ^ i = 0) (hy1 : y < 2 ^ 32) : Go.bits .or .u32 x y = x + y := or_add .u32 32 (by decide) wraps_u32 i hi x y hx0 hx hy0 hy hy1
theorem handle_eq (a b c : Int) : wire_Handle.f a b c = some (handleR a b c) := by
  unfold wire_Handle.f handleR
  by_cases h : 0 ≤ a ∧ a ≤ 255 ∧ 0 ≤ b ∧ b ≤ 255 ∧ 0 ≤ c ∧ c ≤ 65535
  · obtain ⟨h1, h2, h3, h4, h5, h6⟩ := h
    rw [if_neg (by omega), if_neg (by omega), if_neg (by omega), if_neg (by omega), if_neg (by omega), if_neg (by omega), if_pos ⟨h1, h2, h3, h4, h5, h6⟩]
    rw [show a % 4294967296 = a by omega, show b % 4294967296 * 256 % 4294967296 = b * 256 by omega, show c % 4294967296 * 65536 % 4294967296 = c * 65536 by omega]
    rw [or32 8 (by decide) a (b * 256) h1 (by omega) (by omega) (by omega) (by omega), or32 16 (by decide) (a + b * 256) (c * 65536) (by omega) (by omega) (by omega) (by omega) (by omega)]
    rw [show a + b * 256 + c * 65536 = a + 256 * b + 65536 * c by omega]
  · rw [if_neg h]
    repeat' split
    all_goals first | rfl | omega
theorem refHandle_eq (a b c : Int) : rampartref03_Handle.f a b c = some (handleR a b c) := by
  unfold rampartref03_Handle.f handleR
  by_cases h : 0 ≤ a ∧ a ≤ 255 ∧ 0 ≤ b ∧ b ≤ 255 ∧ 0 ≤ c ∧ c ≤ 65535
  · obtain ⟨h1, h2, h3, h4, h5, h6⟩ := h
    rw [if_neg (by omega), if_neg (by omega), if_neg (by omega), if_neg (by omega), if_neg (by omega), if_neg (by omega), if_pos ⟨h1, h2, h3, h4, h5, h6⟩]
    rw [w64 (x := 256 * b) (by omega) (by omega), w64 (x := a + 256 * b) (by omega) (by omega), w64 (x := 65536 * c) (by omega) (by omega), w64 (x := a + 256 * b + 65536 * c) (by omega) (by omega)]
    rw [show (a + 256 * b + 65536 * c) % 4294967296 = a + 256 * b + 65536 * c by omega]
  · rw [if_neg h]
    repeat' split
    all_goals first | rfl | omega
theorem and255 (x : Int) (h0 : 0 ≤ x) (h1 : x < 4294967296) : Go.bits .and .u32 x 255 = x % 256 := bits_mask .u32 32 (by decide) wraps_u32 8 (by decide) x h0 (by omega)
theorem parts_eq (h : Int) (h0 : 0 ≤ h) (h1 : h < 4294967296) : wire_Parts.f h = some (h % 256, h / 256 % 256, h / 65536) := by
  unfold wire_Parts.f
  rw [and255 h h0 h1, and255 (h / 256) (by omega) (by omega), w64 (by omega) (by omega), w64 (by omega) (by omega), w64 (by omega) (by omega)]
theorem refParts_eq (h : Int) (h0 : 0 ≤ h) (h1 : h < 4294967296) : rampartref03_Parts.f h = some (h % 256, h / 256 % 256, h / 65536) := by
  unfold rampartref03_Parts.f
  rw [Int.tmod_eq_emod_of_nonneg h0, Int.tdiv_eq_ediv_of_nonneg h0, Int.tdiv_eq_ediv_of_nonneg h0, w64 (by omega) (by omega)]
  congr 2
  congr 1
  · omega
  · omega
end Go.Proofs.YtbbnaagfnpeloaaDoor.Q
