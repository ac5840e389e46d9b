/- Layer 3, plain: which requests are well-formed, the bytes of numbers: what the printed functions of the program and of the reference come to. -/
import Derived.Test.YtbbnaagfnpeloaaDoorQx3
import Derived.Test.YtbbnaagfnpeloaaDoorQx4
namespace Go.Proofs.YtbbnaagfnpeloaaDoor.Q
open Go.RowKit Go.Proofs.YtbbnaagfnpeloaaDoorW.PrintWords Go.Proofs.YtbbnaagfnpeloaaDoorW.PrintMore
set_option linter.unusedVariables false
set_option linter.unusedSimpArgs false
/-- A request that may be. -/
def isReq (kd a rt h p : Int) : Bool :=
  if kd = 1 then decide (1 ≤ rt) && decide (rt ≤ 7) && (h == 0) && (p == 0)
  else if kd = 2 ∨ kd = 4 ∨ kd = 6 ∨ kd = 7 then (a == 0) && (rt == 0) && (p == 0)
  else if kd = 3 then (a == 0) && (rt == 0)
  else if kd = 5 then decide (1 ≤ rt) && decide (rt ≤ 7) && (p == 0)
  else if kd = 8 then (rt == 0) && (h == 0)
  else if kd = 9 then (a == 0) && (rt == 0) && (h == 0) && (p == 0)
  else false
theorem kinds_of (kd : Int) : kd = 1 ∨ kd = 2 ∨ kd = 3 ∨ kd = 4 ∨ kd = 5 ∨ kd = 6 ∨ kd = 7 ∨ kd = 8 ∨ kd = 9 ∨ (kd ≠ 1 ∧ kd ≠ 2 ∧ kd ≠ 3 ∧ kd ≠ 4 ∧ kd ≠ 5 ∧ kd ≠ 6 ∧ kd ≠ 7 ∧ kd ≠ 8 ∧ kd ≠ 9) := by omega
theorem is_eq (kd a rt h p : Int) : rampartref03_Is.f 3 kd a rt h p = some (isReq kd a rt h p) := by
  unfold rampartref03_Is.f isReq
  by_cases h1 : rt ≥ 1
  · rw [if_pos h1]
    have h1' : decide (1 ≤ rt) = true := decide_eq_true h1
    rcases kinds_of kd with rfl | rfl | rfl | rfl | rfl | rfl | rfl | rfl | rfl | ⟨a1, a2, a3, a4, a5, a6, a7, a8, a9⟩
    all_goals simp only [rampartref03_Is.j0, rampartref03_Is.j1]
    all_goals simp [*]
    all_goals (repeat' split)
    all_goals simp_all
    all_goals omega
  · rw [if_neg h1]
    have h1' : decide (1 ≤ rt) = false := decide_eq_false h1
    rcases kinds_of kd with rfl | rfl | rfl | rfl | rfl | rfl | rfl | rfl | rfl | ⟨a1, a2, a3, a4, a5, a6, a7, a8, a9⟩
    all_goals simp only [rampartref03_Is.j0, rampartref03_Is.j1]
    all_goals simp [*]
    all_goals (repeat' split)
    all_goals simp_all
    all_goals omega
theorem check_eq (kd a rt h p : Int) : wire_Check.f kd a rt h p = some (if isReq kd a rt h p = true then 0 else 30) := by
  unfold wire_Check.f wire_named.f namedR isReq
  rcases kinds_of kd with rfl | rfl | rfl | rfl | rfl | rfl | rfl | rfl | rfl | ⟨a1, a2, a3, a4, a5, a6, a7, a8, a9⟩
  all_goals simp [*]
  all_goals (repeat' split)
  all_goals simp_all
  all_goals omega
theorem wu64 {x : Int} (h0 : 0 ≤ x) (h1 : x < 18446744073709551616) : IntKind.u64.wrap x = x := by
  simp only [IntKind.wrap, IntKind.bits, IntKind.signed]
  first | (simp; omega) | omega
theorem w64 {x : Int} (h0 : 0 ≤ x) (h1 : x < 9223372036854775808) : wrap64 x = x := by unfold wrap64; omega
def le4 (h : Int) : List Int := [h % 256, h / 256 % 256, h / 65536 % 256, h / 16777216 % 256]
def le8 (p : Int) : List Int := [p % 256, p / 256 % 256, p / 65536 % 256, p / 16777216 % 256, p / 4294967296 % 256, p / 1099511627776 % 256, p / 281474976710656 % 256, p / 72057594037927936 % 256]
theorem shr0 (x : Int) : shr .u64 x 0 = x := by simp [shr]
theorem shr8 (x : Int) : shr .u64 x 8 = x / 256 := by simp [shr, IntKind.bits]
theorem shr16 (x : Int) : shr .u64 x 16 = x / 65536 := by simp [shr, IntKind.bits]
theorem shr24 (x : Int) : shr .u64 x 24 = x / 16777216 := by simp [shr, IntKind.bits]
theorem shr32 (x : Int) : shr .u64 x 32 = x / 4294967296 := by simp [shr, IntKind.bits]
theorem shr40 (x : Int) : shr .u64 x 40 = x / 1099511627776 := by simp [shr, IntKind.bits]
theorem shr48 (x : Int) : shr .u64 x 48 = x / 281474976710656 := by simp [shr, IntKind.bits]
theorem shr56 (x : Int) : shr .u64 x 56 = x / 72057594037927936 := by simp [shr, IntKind.bits]
theorem put4 (a b c h : Int) : wire_part_put.f 5 4 4 [a, b, c, 0, 0, 0, 0, 0, 0, 0, 0, 0, 0, 0, 0, 0] h = some ([a, b, c, 0] ++ le4 h ++ [0, 0, 0, 0, 0, 0, 0, 0]) := by
  unfold wire_part_put.f le4
  simp [wire_part_put.l0, IntKind.wrap, IntKind.bits, IntKind.signed, wrap64, shr0, shr8, shr16, shr24]
theorem put8 (a b c d e f g h p : Int) : wire_part_put.f 9 8 8 [a, b, c, d, e, f, g, h, 0, 0, 0, 0, 0, 0, 0, 0] p = some ([a, b, c, d, e, f, g, h] ++ le8 p) := by
  unfold wire_part_put.f le8
  simp [wire_part_put.l0, IntKind.wrap, IntKind.bits, IntKind.signed, wrap64, shr0, shr8, shr16, shr24, shr32, shr40, shr48, shr56]
theorem low_step (x : Int) (h0 : 0 ≤ x) (h1 : x < 18446744073709551616) : IntKind.u64.wrap (Int.tdiv x 256) = x / 256 ∧ Int.tmod x 256 % 256 = x % 256 ∧ 0 ≤ x / 256 ∧ x / 256 < 18446744073709551616 := by
  have e1 : Int.tdiv x 256 = x / 256 := Int.tdiv_eq_ediv_of_nonneg h0
  have e2 : Int.tmod x 256 = x % 256 := Int.tmod_eq_emod_of_nonneg h0
  rw [e1, e2]
  exact ⟨wu64 (by omega) (by omega), by omega, by omega, by omega⟩
theorem low4 (h : Int) (h0 : 0 ≤ h) (h1 : h < 4294967296) : rampartref03_low.f 9 (IntKind.u64.wrap h) 4 = some (le4 h) := by
  rw [wu64 h0 (by omega)]
  obtain ⟨a1, b1, c1, d1⟩ := low_step h h0 (by omega)
  obtain ⟨a2, b2, c2, d2⟩ := low_step _ c1 d1
  obtain ⟨a3, b3, c3, d3⟩ := low_step _ c2 d2
  obtain ⟨a4, b4, c4, d4⟩ := low_step _ c3 d3
  unfold rampartref03_low.f le4
  simp only [rampartref03_low.l0, a1, b1, a2, b2, a3, b3, a4, b4]
  simp [wrap64]
  omega
theorem low8 (p : Int) (h0 : 0 ≤ p) (h1 : p < 18446744073709551616) : rampartref03_low.f 9 p 8 = some (le8 p) := by
  obtain ⟨a1, b1, c1, d1⟩ := low_step p h0 h1
  obtain ⟨a2, b2, c2, d2⟩ := low_step _ c1 d1
  obtain ⟨a3, b3, c3, d3⟩ := low_step _ c2 d2
  obtain ⟨a4, b4, c4, d4⟩ := low_step _ c3 d3
  obtain ⟨a5, b5, c5, d5⟩ := low_step _ c4 d4
  obtain ⟨a6, b6, c6, d6⟩ := low_step _ c5 d5
  obtain ⟨a7, b7, c7, d7⟩ := low_step _ c6 d6
  obtain ⟨a8, b8, c8, d8⟩ := low_step _ c7 d7
  unfold rampartref03_low.f le8
  simp only [rampartref03_low.l0, a1, b1, a2, b2, a3, b3, a4, b4, a5, b5, a6, b6, a7, b7, a8, b8]
  simp [wrap64]
  omega
/-- The bytes of a shape. -/
def bytes16 (a b c h p : Int) : List Int := [a, b, c, 0] ++ le4 h ++ le8 p
theorem shape_eq (a b c h p : Int) (h0 : 0 ≤ h) (h1 : h < 4294967296) (p0 : 0 ≤ p) (p1 : p < 18446744073709551616) : rampartref03_shape.f 9 a b c h p = some (bytes16 a b c h p) := by
  unfold rampartref03_shape.f
  simp only [Option.bind_some, low4 h h0 h1, low8 p p0 p1]
  simp [le4, le8, bytes16]
theorem refBytes_eq (kd a rt h p : Int) (h0 : 0 ≤ h) (h1 : h < 4294967296) (p0 : 0 ≤ p) (p1 : p < 18446744073709551616) : rampartref03_Bytes.f 9 kd a rt h p = some (if isReq kd a rt h p = true then bytes16 kd a rt h p else [], if isReq kd a rt h p = true then 0 else 30) := by
  have e := at_rounds (fun k => rampartref03_Is.mono kd a rt h p k) (show 3 ≤ 9 by omega) (is_eq kd a rt h p)
  unfold rampartref03_Bytes.f
  rw [e]
  simp only [Option.bind_some]
  cases isReq kd a rt h p with
  | true => simp [shape_eq kd a rt h p h0 h1 p0 p1]
  | false => simp
end Go.Proofs.YtbbnaagfnpeloaaDoor.Q
