/- Layer 3, plain: numbers out of bytes, the lowest first: the program's get and the reference's number. -/
import Derived.Test.YtbbnaagfnpeloaaDoorP1
import Derived.Test.YtbbnaagfnpeloaaDoorQx4
import Derived.Test.YtbbnaagfnpeloaaDoorQx5
import Derived.Laws.BitsLemmas
namespace Go.Proofs.YtbbnaagfnpeloaaDoor.Q
open Go.RowKit Go.Proofs.YtbbnaagfnpeloaaDoorW.PrintWords Go.Proofs.YtbbnaagfnpeloaaDoorW.PrintMore
set_option linter.unusedVariables false
set_option linter.unusedSimpArgs false
theorem wraps_u64 (n : Int) (h0 : 0 ≤ n) (h1 : n < 2 ^ 64) : IntKind.u64.wrap n = n := wu64 h0 (by omega)
theorem wraps_u32 (n : Int) (h0 : 0 ≤ n) (h1 : n < 2 ^ 32) : IntKind.u32.wrap n = n := by rw [IntKind.wrap_u32]; omega
theorem or_add (k : IntKind) (j : Nat) (hj : j ≤ k.bits) (hk : ∀ n : Int, 0 ≤ n → n < 2 ^ j → k.wrap n = n) (i : Nat) (hi : i ≤ j) (x y : Int) (hx0 : 0 ≤ x) (hx : x < 2 ^ i) (hy0 : 0 ≤ y) (hy : y % 2 ^ i = 0) (hy1 : y < 2 ^ j) : Go.bits .or k x y = x + y := by
  have hx1 : x < 2 ^ j := by
    have : (2 : Int) ^ i ≤ 2 ^ j := by exact_mod_cast Nat.pow_le_pow_right (by decide) hi
    omega
  have hc : Go.bits .or k x y = Go.bits .or k y x := by
    obtain ⟨a, rfl⟩ := Int.eq_ofNat_of_zero_le hx0
    obtain ⟨b, rfl⟩ := Int.eq_ofNat_of_zero_le hy0
    have ha : a < 2 ^ j := by exact_mod_cast hx1
    have hb : b < 2 ^ j := by exact_mod_cast hy1
    rw [(bits_nat k j hj hk a b ha hb).2, (bits_nat k j hj hk b a hb ha).2, Nat.or_comm]
  rw [hc, bits_join k j hj hk i y x hy0 hy hy1 hx0 hx hx1]
  omega
theorem or64 (i : Nat) (hi : i ≤ 64) (x y : Int) (hx0 : 0 ≤ x) (hx : x < 2 ^ i) (hy0 : 0 ≤ y) (hy : y % 2 ^ i = 0) (hy1 : y < 2 ^ 64) : Go.bits .or .u64 x y = x + y := or_add .u64 64 (by decide) wraps_u64 i hi x y hx0 hx hy0 hy hy1
theorem shl_u64 (b : Int) (s : Int) (m : Int) (hs : (2 : Int) ^ min s.toNat IntKind.u64.bits = m) (hb0 : 0 ≤ b) (hb : b * m < 18446744073709551616) (hm : 0 ≤ m) : shl .u64 b s = b * m := by
  unfold shl
  rw [hs]
  exact wu64 (Int.mul_nonneg hb0 hm) hb
def num4 (a b c d : Int) : Int := a + 256 * b + 65536 * c + 16777216 * d
def num8 (a b c d e f g h : Int) : Int := a + 256 * b + 65536 * c + 16777216 * d + 4294967296 * e + 1099511627776 * f + 281474976710656 * g + 72057594037927936 * h
theorem or_byte (i : Nat) (m : Int) (s : Int) (x b : Int) (hm : (2 : Int) ^ i = m) (hi : i ≤ 56) (hs : s = i) (hx0 : 0 ≤ x) (hx : x < m) (hb0 : 0 ≤ b) (hb : b < 256) : Go.bits .or .u64 x (shl .u64 (IntKind.u64.wrap b) s) = x + m * b := by
  have hp : (0 : Int) < m := by rw [← hm]; exact_mod_cast Nat.two_pow_pos i
  have h56 : m ≤ 72057594037927936 := by
    rw [← hm]
    have : (2 : Int) ^ i ≤ 2 ^ 56 := by exact_mod_cast Nat.pow_le_pow_right (by decide) hi
    simpa using this
  have hmb : b * m ≤ 255 * m := Int.mul_le_mul_of_nonneg_right (by omega) (by omega)
  have hbm : 0 ≤ b * m := Int.mul_nonneg hb0 (by omega)
  rw [wu64 hb0 (by omega), shl_u64 b s m (by subst hs; rw [Int.toNat_natCast, Nat.min_eq_left (by simp [IntKind.bits]; omega)]; exact hm) hb0 (by omega) (by omega)]
  rw [or64 i (by omega) x (b * m) hx0 (by rw [hm]; exact hx) hbm (by rw [hm]; exact Int.mul_emod_left b m) (by omega), Int.mul_comm]
theorem get4 (x0 x1 x2 x3 a b c d x8 x9 y0 y1 y2 y3 y4 y5 : Int) (a0 : 0 ≤ a) (a1 : a < 256) (b0 : 0 ≤ b) (b1 : b < 256) (c0 : 0 ≤ c) (c1 : c < 256) (d0 : 0 ≤ d) (d1 : d < 256) :
    wire_part_get.f 5 4 4 [x0, x1, x2, x3, a, b, c, d, x8, x9, y0, y1, y2, y3, y4, y5] = some (num4 a b c d) := by
  unfold wire_part_get.f num4
  have e0 := or_byte 0 1 0 0 a rfl (by decide) rfl (by omega) (by omega) a0 a1
  have e1 := or_byte 8 256 8 a b rfl (by decide) rfl (by omega) (by omega) b0 b1
  have e2 := or_byte 16 65536 16 (a + 256 * b) c rfl (by decide) rfl (by omega) (by omega) c0 c1
  have e3 := or_byte 24 16777216 24 (a + 256 * b + 65536 * c) d rfl (by decide) rfl (by omega) (by omega) d0 d1
  rw [show (0 : Int) + 1 * a = a by omega] at e0
  have k8 : IntKind.u64.wrap 8 = 8 := by decide
  have k1 : IntKind.u64.wrap 1 = 1 := by decide
  have k0 : IntKind.u64.wrap 0 = 0 := by decide
  have k2 : IntKind.u64.wrap 2 = 2 := by decide
  have k3 : IntKind.u64.wrap 3 = 3 := by decide
  have k16 : IntKind.u64.wrap 16 = 16 := by decide
  have k24 : IntKind.u64.wrap 24 = 24 := by decide
  simp [wire_part_get.l0, wrap64, rd, e0, e1, e2, e3, k0, k1, k2, k3, k8, k16, k24]
theorem get8 (x0 x1 x2 x3 x4 x5 x6 x7 x8 x9 x10 x11 x12 x13 x14 x15 : Int) (l8 : 0 ≤ x8) (u8 : x8 < 256) (l9 : 0 ≤ x9) (u9 : x9 < 256) (l10 : 0 ≤ x10) (u10 : x10 < 256) (l11 : 0 ≤ x11) (u11 : x11 < 256) (l12 : 0 ≤ x12) (u12 : x12 < 256) (l13 : 0 ≤ x13) (u13 : x13 < 256) (l14 : 0 ≤ x14) (u14 : x14 < 256) (l15 : 0 ≤ x15) (u15 : x15 < 256) :
    wire_part_get.f 9 8 8 [x0, x1, x2, x3, x4, x5, x6, x7, x8, x9, x10, x11, x12, x13, x14, x15] = some (num8 x8 x9 x10 x11 x12 x13 x14 x15) := by
  unfold wire_part_get.f num8
  have e0 := or_byte 0 1 0 0 x8 rfl (by decide) rfl (by omega) (by omega) l8 u8
  have e1 := or_byte 8 256 8 x8 x9 rfl (by decide) rfl (by omega) (by omega) l9 u9
  have e2 := or_byte 16 65536 16 (x8 + 256 * x9) x10 rfl (by decide) rfl (by omega) (by omega) l10 u10
  have e3 := or_byte 24 16777216 24 (x8 + 256 * x9 + 65536 * x10) x11 rfl (by decide) rfl (by omega) (by omega) l11 u11
  have e4 := or_byte 32 4294967296 32 (x8 + 256 * x9 + 65536 * x10 + 16777216 * x11) x12 rfl (by decide) rfl (by omega) (by omega) l12 u12
  have e5 := or_byte 40 1099511627776 40 (x8 + 256 * x9 + 65536 * x10 + 16777216 * x11 + 4294967296 * x12) x13 rfl (by decide) rfl (by omega) (by omega) l13 u13
  have e6 := or_byte 48 281474976710656 48 (x8 + 256 * x9 + 65536 * x10 + 16777216 * x11 + 4294967296 * x12 + 1099511627776 * x13) x14 rfl (by decide) rfl (by omega) (by omega) l14 u14
  have e7 := or_byte 56 72057594037927936 56 (x8 + 256 * x9 + 65536 * x10 + 16777216 * x11 + 4294967296 * x12 + 1099511627776 * x13 + 281474976710656 * x14) x15 rfl (by decide) rfl (by omega) (by omega) l15 u15
  rw [show (0 : Int) + 1 * x8 = x8 by omega] at e0
  have k0 : IntKind.u64.wrap 0 = 0 := by decide
  have k1 : IntKind.u64.wrap 1 = 1 := by decide
  have k2 : IntKind.u64.wrap 2 = 2 := by decide
  have k3 : IntKind.u64.wrap 3 = 3 := by decide
  have k4 : IntKind.u64.wrap 4 = 4 := by decide
  have k5 : IntKind.u64.wrap 5 = 5 := by decide
  have k6 : IntKind.u64.wrap 6 = 6 := by decide
  have k7 : IntKind.u64.wrap 7 = 7 := by decide
  have k8 : IntKind.u64.wrap 8 = 8 := by decide
  have k16 : IntKind.u64.wrap 16 = 16 := by decide
  have k24 : IntKind.u64.wrap 24 = 24 := by decide
  have k32 : IntKind.u64.wrap 32 = 32 := by decide
  have k40 : IntKind.u64.wrap 40 = 40 := by decide
  have k48 : IntKind.u64.wrap 48 = 48 := by decide
  have k56 : IntKind.u64.wrap 56 = 56 := by decide
  simp [wire_part_get.l0, wrap64, rd, e0, e1, e2, e3, e4, e5, e6, e7, k0, k1, k2, k3, k4, k5, k6, k7, k8, k16, k24, k32, k40, k48, k56]
theorem number4 (x4 x5 x6 x7 : Int) (l4 : 0 ≤ x4) (u4 : x4 < 256) (l5 : 0 ≤ x5) (u5 : x5 < 256) (l6 : 0 ≤ x6) (u6 : x6 < 256) (l7 : 0 ≤ x7) (u7 : x7 < 256) : rampartref03_number.f 9 [x4, x5, x6, x7] = some (num4 x4 x5 x6 x7) := by
  unfold rampartref03_number.f num4
  have w0 := wu64 (x := x7) (by omega) (by omega)
  have w1 := wu64 (x := x7 * 256) (by omega) (by omega)
  have w2 := wu64 (x := x6) (by omega) (by omega)
  have w3 := wu64 (x := x7 * 256 + x6) (by omega) (by omega)
  have w4 := wu64 (x := (x7 * 256 + x6) * 256) (by omega) (by omega)
  have w5 := wu64 (x := x5) (by omega) (by omega)
  have w6 := wu64 (x := (x7 * 256 + x6) * 256 + x5) (by omega) (by omega)
  have w7 := wu64 (x := ((x7 * 256 + x6) * 256 + x5) * 256) (by omega) (by omega)
  have w8 := wu64 (x := x4) (by omega) (by omega)
  have w9 := wu64 (x := ((x7 * 256 + x6) * 256 + x5) * 256 + x4) (by omega) (by omega)
  have k0 : IntKind.u64.wrap 0 = 0 := by decide
  simp [rampartref03_number.l0, wrap64, rd, w0, w1, w2, w3, w4, w5, w6, w7, w8, w9, k0]
  omega
theorem number8 (x8 x9 x10 x11 x12 x13 x14 x15 : Int) (l8 : 0 ≤ x8) (u8 : x8 < 256) (l9 : 0 ≤ x9) (u9 : x9 < 256) (l10 : 0 ≤ x10) (u10 : x10 < 256) (l11 : 0 ≤ x11) (u11 : x11 < 256) (l12 : 0 ≤ x12) (u12 : x12 < 256) (l13 : 0 ≤ x13) (u13 : x13 < 256) (l14 : 0 ≤ x14) (u14 : x14 < 256) (l15 : 0 ≤ x15) (u15 : x15 < 256) : rampartref03_number.f 9 [x8, x9, x10, x11, x12, x13, x14, x15] = some (num8 x8 x9 x10 x11 x12 x13 x14 x15) := by
  unfold rampartref03_number.f num8
  have w0 := wu64 (x := x15) (by omega) (by omega)
  have w1 := wu64 (x := x15 * 256) (by omega) (by omega)
  have w2 := wu64 (x := x14) (by omega) (by omega)
  have w3 := wu64 (x := x15 * 256 + x14) (by omega) (by omega)
  have w4 := wu64 (x := (x15 * 256 + x14) * 256) (by omega) (by omega)
  have w5 := wu64 (x := x13) (by omega) (by omega)
  have w6 := wu64 (x := (x15 * 256 + x14) * 256 + x13) (by omega) (by omega)
  have w7 := wu64 (x := ((x15 * 256 + x14) * 256 + x13) * 256) (by omega) (by omega)
  have w8 := wu64 (x := x12) (by omega) (by omega)
  have w9 := wu64 (x := ((x15 * 256 + x14) * 256 + x13) * 256 + x12) (by omega) (by omega)
  have w10 := wu64 (x := (((x15 * 256 + x14) * 256 + x13) * 256 + x12) * 256) (by omega) (by omega)
  have w11 := wu64 (x := x11) (by omega) (by omega)
  have w12 := wu64 (x := (((x15 * 256 + x14) * 256 + x13) * 256 + x12) * 256 + x11) (by omega) (by omega)
  have w13 := wu64 (x := ((((x15 * 256 + x14) * 256 + x13) * 256 + x12) * 256 + x11) * 256) (by omega) (by omega)
  have w14 := wu64 (x := x10) (by omega) (by omega)
  have w15 := wu64 (x := ((((x15 * 256 + x14) * 256 + x13) * 256 + x12) * 256 + x11) * 256 + x10) (by omega) (by omega)
  have w16 := wu64 (x := (((((x15 * 256 + x14) * 256 + x13) * 256 + x12) * 256 + x11) * 256 + x10) * 256) (by omega) (by omega)
  have w17 := wu64 (x := x9) (by omega) (by omega)
  have w18 := wu64 (x := (((((x15 * 256 + x14) * 256 + x13) * 256 + x12) * 256 + x11) * 256 + x10) * 256 + x9) (by omega) (by omega)
  have w19 := wu64 (x := ((((((x15 * 256 + x14) * 256 + x13) * 256 + x12) * 256 + x11) * 256 + x10) * 256 + x9) * 256) (by omega) (by omega)
  have w20 := wu64 (x := x8) (by omega) (by omega)
  have w21 := wu64 (x := ((((((x15 * 256 + x14) * 256 + x13) * 256 + x12) * 256 + x11) * 256 + x10) * 256 + x9) * 256 + x8) (by omega) (by omega)
  have k0 : IntKind.u64.wrap 0 = 0 := by decide
  simp [rampartref03_number.l0, wrap64, rd, k0, w0, w1, w2, w3, w4, w5, w6, w7, w8, w9, w10, w11, w12, w13, w14, w15, w16, w17, w18, w19, w20, w21]
  omega
theorem num4_lt (a b c d : Int) (a0 : 0 ≤ a) (a1 : a < 256) (b0 : 0 ≤ b) (b1 : b < 256) (c0 : 0 ≤ c) (c1 : c < 256) (d0 : 0 ≤ d) (d1 : d < 256) : 0 ≤ num4 a b c d ∧ num4 a b c d < 4294967296 ∧ num4 a b c d % 4294967296 = num4 a b c d := by
  unfold num4
  omega
theorem num8_lt (x8 x9 x10 x11 x12 x13 x14 x15 : Int) (l8 : 0 ≤ x8) (u8 : x8 < 256) (l9 : 0 ≤ x9) (u9 : x9 < 256) (l10 : 0 ≤ x10) (u10 : x10 < 256) (l11 : 0 ≤ x11) (u11 : x11 < 256) (l12 : 0 ≤ x12) (u12 : x12 < 256) (l13 : 0 ≤ x13) (u13 : x13 < 256) (l14 : 0 ≤ x14) (u14 : x14 < 256) (l15 : 0 ≤ x15) (u15 : x15 < 256) : 0 ≤ num8 x8 x9 x10 x11 x12 x13 x14 x15 ∧ num8 x8 x9 x10 x11 x12 x13 x14 x15 < 18446744073709551616 := by
  unfold num8
  omega
end Go.Proofs.YtbbnaagfnpeloaaDoor.Q
