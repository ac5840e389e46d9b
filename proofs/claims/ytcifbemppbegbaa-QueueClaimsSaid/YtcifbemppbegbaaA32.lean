/- Layer 10: the document's Claim. -/
import Derived.Test.YtcifbemppbegbaaA30
import Derived.Test.YtcifbemppbegbaaQx7
namespace Go.Proofs.Ytcifbemppbegbaa.Q
open Go.RowKit Go.Proofs.YtcifbemppbegbaaW.PrintWords Go.Proofs.YtcifbemppbegbaaW.PrintMore Go.Proofs.YtcifbemppbegbaaW.PrintLast
set_option linter.unusedVariables false
set_option linter.unusedSimpArgs false
set_option maxRecDepth 100000 in
set_option maxHeartbeats 4000000 in
theorem RClaim_asked (lane : Int) (k : Nat) {t : Int} {v : Value} {l0 : List S61} {l1 : List S40} {w : World} (h : QV w v l0 l1) (ha : rampartref10_asked.f k l0 l1 lane = some t) (ht : t ≠ 0) : Calls Try.prog 10 #[v, .int .i64 lane] w fun e w' => ∃ v', e = .returned (.tuple #[v', .agg #[.int .i64 0, .int .i64 0, .int .i64 0], .int .i64 t]) ∧ QO w' v' [] [] ∧ Below w.heap.size w w' := by
  have t1 : (t != 0) = true := bne_iff_ne.2 ht
  obtain ⟨A0, c0, A1, c1, rfl, h0, h1, hC0, hC1⟩ := h
  go_enter Try.func10, Try.ntmps10
  go_wp2_with fail
  obtain ⟨q1, q2, q3, qz, hBB⟩ := three_blocks w (.cells #[.slice A0 l0.length c0, .slice A1 l1.length c1] 25) (.cells #[.slice none 0 0, .slice none 0 0] 25) (.cells #[.int .i64 0, .int .i64 0, .int .i64 0] 27)
  have hC0' := Kd.C_below hC0 hBB
  have hC1' := Kd.C_below hC1 hBB
  clear hC0 hC1
  generalize ((w.alloc (.cells #[.slice A0 l0.length c0, .slice A1 l1.length c1] 25)).alloc (.cells #[.slice none 0 0, .slice none 0 0] 25)).alloc (.cells #[.int .i64 0, .int .i64 0, .int .i64 0] 27) = w2 at q1 q2 q3 qz hBB hC0' hC1' ⊢
  refine (rampartref10_asked.calls k A0 c0 l0 A1 c1 l1 lane t w2 hC0' h0 hC1' h1 ha).mono ?_
  rintro e w3 ⟨rfl, hb3⟩
  have q1 := heap_on q1 hb3
  have q2 := heap_on q2 hb3
  have q3 := heap_on q3 hb3
  have hB3 := vbelow_step hBB hb3
  have hz3 := hb3.size
  have hC0 := Kd.C_below hC0' hb3
  have hC1 := Kd.C_below hC1' hb3
  obtain ⟨a0, a1, _⟩ := blk2 q1
  obtain ⟨b0, b1, bF⟩ := blk2 q2
  have bF0 := bF 0
  have bF1 := bF 1
  obtain ⟨g0, g1, g2, gF⟩ := blk3 q3
  have gF0 := gF 0
  have gF1 := gF 1
  have gF2 := gF 2
  have k1 : w.heap.size < w3.heap.size := by omega
  have k2 : w.heap.size + 1 < w3.heap.size := by omega
  have k3 : w.heap.size + 1 + 1 < w3.heap.size := by omega
  clear bF gF hBB hb3 hC0' hC1'
  go_wp2_with fail
  refine bodyPost_ret (results_list (rs := [.cell 4 25, .cell 5 27, .tmp 6]) rfl (by simp) (.cell (w.heap.size + 1) 25 #[.slice none 0 0, .slice none 0 0] (0, 0) _ rfl (by repeat (first | (with_reducible exact q2) | (with_reducible exact q3) | (with_reducible refine put3 (u0 := .int .i64 0) (u1 := .int .i64 0) (u2 := .int .i64 0) ?_ _ _ _) | (with_reducible refine put2 (u0 := .slice none 0 0) (u1 := .slice none 0 0) ?_ _ _) | (with_reducible refine blk_alloc ?_ _) | (with_reducible refine blk_drew ?_) | (with_reducible refine blk_drewN ?_ _) | (with_reducible refine blk_far ?_ (by dsimp only; omega) _))) Try.underlying25 rfl (by kernel_rfl) (.cell (w.heap.size + 1 + 1) 27 #[.int .i64 0, .int .i64 0, .int .i64 0] (0, 0) _ rfl (by repeat (first | (with_reducible exact q2) | (with_reducible exact q3) | (with_reducible refine put3 (u0 := .int .i64 0) (u1 := .int .i64 0) (u2 := .int .i64 0) ?_ _ _ _) | (with_reducible refine put2 (u0 := .slice none 0 0) (u1 := .slice none 0 0) ?_ _ _) | (with_reducible refine blk_alloc ?_ _) | (with_reducible refine blk_drew ?_) | (with_reducible refine blk_drewN ?_ _) | (with_reducible refine blk_far ?_ (by dsimp only; omega) _))) Try.underlying27 rfl (by kernel_rfl) (.tmp .nil)))) rfl ?_
  exact ⟨_, rfl, QO.nil _, (by repeat (first | (with_reducible exact hB3) | (with_reducible refine vbelow_alloc ?_ _) | (with_reducible refine vbelow_drew ?_) | (with_reducible refine vbelow_drewN ?_ _) | (with_reducible refine vbelow_set ?_ (by first | exact Nat.le_refl _ | (dsimp only; omega) | omega))))⟩
set_option maxRecDepth 100000 in
set_option maxHeartbeats 4000000 in
theorem RClaim_full (i k : Nat) {v : Value} {l0 : List S61} {l1 : List S40} {w : World} (h : QV w v l0 l1) (ha : rampartref10_asked.f k l0 l1 (i : Int) = some 0) (ho : rampartref10_own.f k l0 l1 = some (l0, l1)) {y : S61} (hx : l0[i]? = some y) (hz : y.f2 = 0) : Calls Try.prog 10 #[v, .int .i64 (i : Int)] w fun e w' => ∃ v', e = .returned (.tuple #[v', .agg #[.int .i64 0, .int .i64 0, .int .i64 0], .int .i64 101]) ∧ QO w' v' [] [] ∧ Below w.heap.size w w' := by
  have t1 : ((0 : Int) != 0) = false := rfl
  have hzh := Lib.hid hz
  clear hz
  have hi : i < l0.length := (List.getElem?_eq_some_iff.1 hx).1
  have hi0 : (0 : Int) ≤ (i : Int) := by omega
  have hi1 : (i : Int) < (l0.length : Int) := by omega
  obtain ⟨A0, c0, A1, c1, rfl, h0, h1, hC0, hC1⟩ := h
  go_enter Try.func10, Try.ntmps10
  go_wp2_with fail
  obtain ⟨q1, q2, q3, qz, hBB⟩ := three_blocks w (.cells #[.slice A0 l0.length c0, .slice A1 l1.length c1] 25) (.cells #[.slice none 0 0, .slice none 0 0] 25) (.cells #[.int .i64 0, .int .i64 0, .int .i64 0] 27)
  have hC0' := Kd.C_below hC0 hBB
  have hC1' := Kd.C_below hC1 hBB
  clear hC0 hC1
  generalize ((w.alloc (.cells #[.slice A0 l0.length c0, .slice A1 l1.length c1] 25)).alloc (.cells #[.slice none 0 0, .slice none 0 0] 25)).alloc (.cells #[.int .i64 0, .int .i64 0, .int .i64 0] 27) = w2 at q1 q2 q3 qz hBB hC0' hC1' ⊢
  refine (rampartref10_asked.calls k A0 c0 l0 A1 c1 l1 (i : Int) 0 w2 hC0' h0 hC1' h1 ha).mono ?_
  rintro e w3 ⟨rfl, hb3⟩
  have q1 := heap_on q1 hb3
  have q2 := heap_on q2 hb3
  have q3 := heap_on q3 hb3
  have hB3 := vbelow_step hBB hb3
  have hz3 := hb3.size
  have hC0 := Kd.C_below hC0' hb3
  have hC1 := Kd.C_below hC1' hb3
  obtain ⟨a0, a1, _⟩ := blk2 q1
  obtain ⟨b0, b1, bF⟩ := blk2 q2
  have bF0 := bF 0
  have bF1 := bF 1
  obtain ⟨g0, g1, g2, gF⟩ := blk3 q3
  have gF0 := gF 0
  have gF1 := gF 1
  have gF2 := gF 2
  have k1 : w.heap.size < w3.heap.size := by omega
  have k2 : w.heap.size + 1 < w3.heap.size := by omega
  have k3 : w.heap.size + 1 + 1 < w3.heap.size := by omega
  clear bF gF hBB hb3 hC0' hC1'
  go_wp2_with fail
  refine (rampartref10_own.calls k A0 c0 l0 A1 c1 l1 l0 l1 _ hC0 h0 hC1 h1 ho).mono ?_
  rintro e w4 ⟨v0, v1, rfl, hS, hM, hb4⟩
  obtain ⟨gl, cv, rfl, hcv, hH⟩ := Half.of_S hS (by omega)
  obtain ⟨A2, d2, rfl, hd2, hMQ⟩ := R40_QO hM
  have q2 := heap_on q2 hb4
  have q3 := heap_on q3 hb4
  have hB4 := vbelow_step hB3 hb4
  have hz4 := hb4.size
  have k5 : w.heap.size + 1 < w4.heap.size := by omega
  have k6 : w.heap.size + 1 + 1 < w4.heap.size := by omega
  obtain ⟨A4, c4, o0, o1, o2, o3, o4, o5, oF, hc4, hC4⟩ := hH.rd.cells hx
  have n0 := vcell_alloc o0 (.cells #[.slice (some ⟨gl, 0, none⟩) l0.length cv, .slice A2 l1.length d2] 25)
  have n1 := vcell_alloc o1 (.cells #[.slice (some ⟨gl, 0, none⟩) l0.length cv, .slice A2 l1.length d2] 25)
  have n2 := vcell_alloc o2 (.cells #[.slice (some ⟨gl, 0, none⟩) l0.length cv, .slice A2 l1.length d2] 25)
  have n3 := vcell_alloc o3 (.cells #[.slice (some ⟨gl, 0, none⟩) l0.length cv, .slice A2 l1.length d2] 25)
  have n4 := vcell_alloc o4 (.cells #[.slice (some ⟨gl, 0, none⟩) l0.length cv, .slice A2 l1.length d2] 25)
  have n5 := vcell_alloc o5 (.cells #[.slice (some ⟨gl, 0, none⟩) l0.length cv, .slice A2 l1.length d2] 25)
  clear a0 a1 b0 b1 bF0 bF1 g0 g1 g2 gF0 gF1 gF2 q1 hb4 hC0 hC1 hB3 oF hS hC4
  go_upto_region 6 with fail
  obtain ⟨u1, u2, uz, hB5⟩ := two_blocks w4 (.cells #[.slice (some ⟨gl, 0, none⟩) l0.length cv, .slice A2 l1.length d2] 25) (.cells #[.int .i64 y.f0, .bool y.f1, .int .i64 y.f2, .slice A4 y.f3.length c4, .int .i64 y.f4, .int .i64 y.f5] 61)
  have q2 := heap_on q2 hB5
  have q3 := heap_on q3 hB5
  have hB6 := vbelow_step hB4 hB5
  have hH5 := (hH.on hB5)
  have o3' := vcell hB5 o3
  have hMQ5 : ∀ W', KQ ((w4.alloc (.cells #[.slice (some ⟨gl, 0, none⟩) l0.length cv, .slice A2 l1.length d2] 25)).alloc (.cells #[.int .i64 y.f0, .bool y.f1, .int .i64 y.f2, .slice A4 y.f3.length c4, .int .i64 y.f4, .int .i64 y.f5] 61)) W' → Kd.C k40 W' A2 l1.length l1 := fun W' hk => hMQ W' ((KQ.on hB5).trans hk)
  have hz5 := hB5.size
  have k9 : w4.heap.size < ((w4.alloc (.cells #[.slice (some ⟨gl, 0, none⟩) l0.length cv, .slice A2 l1.length d2] 25)).alloc (.cells #[.int .i64 y.f0, .bool y.f1, .int .i64 y.f2, .slice A4 y.f3.length c4, .int .i64 y.f4, .int .i64 y.f5] 61)).heap.size := by omega
  have k10 : w4.heap.size + 1 < ((w4.alloc (.cells #[.slice (some ⟨gl, 0, none⟩) l0.length cv, .slice A2 l1.length d2] 25)).alloc (.cells #[.int .i64 y.f0, .bool y.f1, .int .i64 y.f2, .slice A4 y.f3.length c4, .int .i64 y.f4, .int .i64 y.f5] 61)).heap.size := by omega
  have k11 : w.heap.size ≤ w4.heap.size := by omega
  clear n0 n1 n2 n3 n4 n5 o0 o1 o2 o3 o4 o5 hB5 hB4 uz hH hM hMQ
  generalize (w4.alloc (.cells #[.slice (some ⟨gl, 0, none⟩) l0.length cv, .slice A2 l1.length d2] 25)).alloc (.cells #[.int .i64 y.f0, .bool y.f1, .int .i64 y.f2, .slice A4 y.f3.length c4, .int .i64 y.f4, .int .i64 y.f5] 61) = w5 at u1 u2 q2 q3 hB6 hH5 o3' hMQ5 hz5 k9 k10 ⊢
  obtain ⟨b0, b1, bF⟩ := blk2 q2
  have bF0 := bF 0
  have bF1 := bF 1
  obtain ⟨g0, g1, g2, gF⟩ := blk3 q3
  have gF0 := gF 0
  have gF1 := gF 1
  have gF2 := gF 2
  obtain ⟨x0, x1, xF⟩ := blk2 u1
  have y0 : w5.cell? ⟨w4.heap.size + 1, 0, none⟩ = some (.int .i64 y.f0) := (cell_in u2).trans rfl
  have y1 : w5.cell? ⟨w4.heap.size + 1, 1, none⟩ = some (.bool y.f1) := (cell_in u2).trans rfl
  have y2 : w5.cell? ⟨w4.heap.size + 1, 2, none⟩ = some (.int .i64 y.f2) := (cell_in u2).trans rfl
  have y3 : w5.cell? ⟨w4.heap.size + 1, 3, none⟩ = some (.slice A4 y.f3.length c4) := (cell_in u2).trans rfl
  have y4 : w5.cell? ⟨w4.heap.size + 1, 4, none⟩ = some (.int .i64 y.f4) := (cell_in u2).trans rfl
  have y5 : w5.cell? ⟨w4.heap.size + 1, 5, none⟩ = some (.int .i64 y.f5) := (cell_in u2).trans rfl
  clear bF gF
  have t2 : (y.f2 == 0) = true := beq_iff_eq.2 hzh.out
  go_wp2_with fail
  refine bodyPost_ret (results_list (rs := [.cell 4 25, .cell 5 27, .tmp 6]) rfl (by simp) (.cell (w.heap.size + 1) 25 #[.slice none 0 0, .slice none 0 0] (0, 0) _ rfl (by repeat (first | (with_reducible exact q2) | (with_reducible exact q3) | (with_reducible refine put3 (u0 := .int .i64 0) (u1 := .int .i64 0) (u2 := .int .i64 0) ?_ _ _ _) | (with_reducible refine put2 (u0 := .slice none 0 0) (u1 := .slice none 0 0) ?_ _ _) | (with_reducible refine blk_alloc ?_ _) | (with_reducible refine blk_drew ?_) | (with_reducible refine blk_drewN ?_ _) | (with_reducible refine blk_far ?_ (by dsimp only; omega) _))) Try.underlying25 rfl (by kernel_rfl) (.cell (w.heap.size + 1 + 1) 27 #[.int .i64 0, .int .i64 0, .int .i64 0] (0, 0) _ rfl (by repeat (first | (with_reducible exact q2) | (with_reducible exact q3) | (with_reducible refine put3 (u0 := .int .i64 0) (u1 := .int .i64 0) (u2 := .int .i64 0) ?_ _ _ _) | (with_reducible refine put2 (u0 := .slice none 0 0) (u1 := .slice none 0 0) ?_ _ _) | (with_reducible refine blk_alloc ?_ _) | (with_reducible refine blk_drew ?_) | (with_reducible refine blk_drewN ?_ _) | (with_reducible refine blk_far ?_ (by dsimp only; omega) _))) Try.underlying27 rfl (by kernel_rfl) (.tmp .nil)))) rfl ?_
  exact ⟨_, rfl, QO.nil _, (by repeat (first | (with_reducible exact hB6) | (with_reducible refine vbelow_alloc ?_ _) | (with_reducible refine vbelow_drew ?_) | (with_reducible refine vbelow_drewN ?_ _) | (with_reducible refine vbelow_set ?_ (by first | exact Nat.le_refl _ | (dsimp only; omega) | omega))))⟩
set_option maxRecDepth 100000 in
set_option maxHeartbeats 4000000 in
theorem RClaim_many (i k : Nat) {v : Value} {l0 : List S61} {l1 : List S40} {w : World} (h : QV w v l0 l1) (ha : rampartref10_asked.f k l0 l1 (i : Int) = some 0) (ho : rampartref10_own.f k l0 l1 = some (l0, l1)) {y : S61} (hx : l0[i]? = some y) (hz : y.f2 ≠ 0) (h4 : y.f4 = 1099511627776) : Calls Try.prog 10 #[v, .int .i64 (i : Int)] w fun e w' => ∃ v', e = .returned (.tuple #[v', .agg #[.int .i64 0, .int .i64 0, .int .i64 0], .int .i64 3]) ∧ QO w' v' [] [] ∧ Below w.heap.size w w' := by
  have t1 : ((0 : Int) != 0) = false := rfl
  have hzh := Lib.hid hz
  have h4h := Lib.hid h4
  clear hz h4
  have hi : i < l0.length := (List.getElem?_eq_some_iff.1 hx).1
  have hi0 : (0 : Int) ≤ (i : Int) := by omega
  have hi1 : (i : Int) < (l0.length : Int) := by omega
  obtain ⟨A0, c0, A1, c1, rfl, h0, h1, hC0, hC1⟩ := h
  go_enter Try.func10, Try.ntmps10
  go_wp2_with fail
  obtain ⟨q1, q2, q3, qz, hBB⟩ := three_blocks w (.cells #[.slice A0 l0.length c0, .slice A1 l1.length c1] 25) (.cells #[.slice none 0 0, .slice none 0 0] 25) (.cells #[.int .i64 0, .int .i64 0, .int .i64 0] 27)
  have hC0' := Kd.C_below hC0 hBB
  have hC1' := Kd.C_below hC1 hBB
  clear hC0 hC1
  generalize ((w.alloc (.cells #[.slice A0 l0.length c0, .slice A1 l1.length c1] 25)).alloc (.cells #[.slice none 0 0, .slice none 0 0] 25)).alloc (.cells #[.int .i64 0, .int .i64 0, .int .i64 0] 27) = w2 at q1 q2 q3 qz hBB hC0' hC1' ⊢
  refine (rampartref10_asked.calls k A0 c0 l0 A1 c1 l1 (i : Int) 0 w2 hC0' h0 hC1' h1 ha).mono ?_
  rintro e w3 ⟨rfl, hb3⟩
  have q1 := heap_on q1 hb3
  have q2 := heap_on q2 hb3
  have q3 := heap_on q3 hb3
  have hB3 := vbelow_step hBB hb3
  have hz3 := hb3.size
  have hC0 := Kd.C_below hC0' hb3
  have hC1 := Kd.C_below hC1' hb3
  obtain ⟨a0, a1, _⟩ := blk2 q1
  obtain ⟨b0, b1, bF⟩ := blk2 q2
  have bF0 := bF 0
  have bF1 := bF 1
  obtain ⟨g0, g1, g2, gF⟩ := blk3 q3
  have gF0 := gF 0
  have gF1 := gF 1
  have gF2 := gF 2
  have k1 : w.heap.size < w3.heap.size := by omega
  have k2 : w.heap.size + 1 < w3.heap.size := by omega
  have k3 : w.heap.size + 1 + 1 < w3.heap.size := by omega
  clear bF gF hBB hb3 hC0' hC1'
  go_wp2_with fail
  refine (rampartref10_own.calls k A0 c0 l0 A1 c1 l1 l0 l1 _ hC0 h0 hC1 h1 ho).mono ?_
  rintro e w4 ⟨v0, v1, rfl, hS, hM, hb4⟩
  obtain ⟨gl, cv, rfl, hcv, hH⟩ := Half.of_S hS (by omega)
  obtain ⟨A2, d2, rfl, hd2, hMQ⟩ := R40_QO hM
  have q2 := heap_on q2 hb4
  have q3 := heap_on q3 hb4
  have hB4 := vbelow_step hB3 hb4
  have hz4 := hb4.size
  have k5 : w.heap.size + 1 < w4.heap.size := by omega
  have k6 : w.heap.size + 1 + 1 < w4.heap.size := by omega
  obtain ⟨A4, c4, o0, o1, o2, o3, o4, o5, oF, hc4, hC4⟩ := hH.rd.cells hx
  have n0 := vcell_alloc o0 (.cells #[.slice (some ⟨gl, 0, none⟩) l0.length cv, .slice A2 l1.length d2] 25)
  have n1 := vcell_alloc o1 (.cells #[.slice (some ⟨gl, 0, none⟩) l0.length cv, .slice A2 l1.length d2] 25)
  have n2 := vcell_alloc o2 (.cells #[.slice (some ⟨gl, 0, none⟩) l0.length cv, .slice A2 l1.length d2] 25)
  have n3 := vcell_alloc o3 (.cells #[.slice (some ⟨gl, 0, none⟩) l0.length cv, .slice A2 l1.length d2] 25)
  have n4 := vcell_alloc o4 (.cells #[.slice (some ⟨gl, 0, none⟩) l0.length cv, .slice A2 l1.length d2] 25)
  have n5 := vcell_alloc o5 (.cells #[.slice (some ⟨gl, 0, none⟩) l0.length cv, .slice A2 l1.length d2] 25)
  clear a0 a1 b0 b1 bF0 bF1 g0 g1 g2 gF0 gF1 gF2 q1 hb4 hC0 hC1 hB3 oF hS hC4
  go_upto_region 6 with fail
  obtain ⟨u1, u2, uz, hB5⟩ := two_blocks w4 (.cells #[.slice (some ⟨gl, 0, none⟩) l0.length cv, .slice A2 l1.length d2] 25) (.cells #[.int .i64 y.f0, .bool y.f1, .int .i64 y.f2, .slice A4 y.f3.length c4, .int .i64 y.f4, .int .i64 y.f5] 61)
  have q2 := heap_on q2 hB5
  have q3 := heap_on q3 hB5
  have hB6 := vbelow_step hB4 hB5
  have hH5 := (hH.on hB5)
  have o3' := vcell hB5 o3
  have hMQ5 : ∀ W', KQ ((w4.alloc (.cells #[.slice (some ⟨gl, 0, none⟩) l0.length cv, .slice A2 l1.length d2] 25)).alloc (.cells #[.int .i64 y.f0, .bool y.f1, .int .i64 y.f2, .slice A4 y.f3.length c4, .int .i64 y.f4, .int .i64 y.f5] 61)) W' → Kd.C k40 W' A2 l1.length l1 := fun W' hk => hMQ W' ((KQ.on hB5).trans hk)
  have hz5 := hB5.size
  have k9 : w4.heap.size < ((w4.alloc (.cells #[.slice (some ⟨gl, 0, none⟩) l0.length cv, .slice A2 l1.length d2] 25)).alloc (.cells #[.int .i64 y.f0, .bool y.f1, .int .i64 y.f2, .slice A4 y.f3.length c4, .int .i64 y.f4, .int .i64 y.f5] 61)).heap.size := by omega
  have k10 : w4.heap.size + 1 < ((w4.alloc (.cells #[.slice (some ⟨gl, 0, none⟩) l0.length cv, .slice A2 l1.length d2] 25)).alloc (.cells #[.int .i64 y.f0, .bool y.f1, .int .i64 y.f2, .slice A4 y.f3.length c4, .int .i64 y.f4, .int .i64 y.f5] 61)).heap.size := by omega
  have k11 : w.heap.size ≤ w4.heap.size := by omega
  clear n0 n1 n2 n3 n4 n5 o0 o1 o2 o3 o4 o5 hB5 hB4 uz hH hM hMQ
  generalize (w4.alloc (.cells #[.slice (some ⟨gl, 0, none⟩) l0.length cv, .slice A2 l1.length d2] 25)).alloc (.cells #[.int .i64 y.f0, .bool y.f1, .int .i64 y.f2, .slice A4 y.f3.length c4, .int .i64 y.f4, .int .i64 y.f5] 61) = w5 at u1 u2 q2 q3 hB6 hH5 o3' hMQ5 hz5 k9 k10 ⊢
  obtain ⟨b0, b1, bF⟩ := blk2 q2
  have bF0 := bF 0
  have bF1 := bF 1
  obtain ⟨g0, g1, g2, gF⟩ := blk3 q3
  have gF0 := gF 0
  have gF1 := gF 1
  have gF2 := gF 2
  obtain ⟨x0, x1, xF⟩ := blk2 u1
  have y0 : w5.cell? ⟨w4.heap.size + 1, 0, none⟩ = some (.int .i64 y.f0) := (cell_in u2).trans rfl
  have y1 : w5.cell? ⟨w4.heap.size + 1, 1, none⟩ = some (.bool y.f1) := (cell_in u2).trans rfl
  have y2 : w5.cell? ⟨w4.heap.size + 1, 2, none⟩ = some (.int .i64 y.f2) := (cell_in u2).trans rfl
  have y3 : w5.cell? ⟨w4.heap.size + 1, 3, none⟩ = some (.slice A4 y.f3.length c4) := (cell_in u2).trans rfl
  have y4 : w5.cell? ⟨w4.heap.size + 1, 4, none⟩ = some (.int .i64 y.f4) := (cell_in u2).trans rfl
  have y5 : w5.cell? ⟨w4.heap.size + 1, 5, none⟩ = some (.int .i64 y.f5) := (cell_in u2).trans rfl
  clear bF gF
  have hz := hzh.out
  have h4 := h4h.out
  have t2 : (y.f2 == 0) = false := beq_eq_false_iff_ne.2 hz
  have t3 : (y.f4 == 1099511627776) = true := beq_iff_eq.2 h4
  have t4 : decide (y.f4 = 1099511627776) = true := decide_eq_true h4
  have t5 : decide (y.f2 = 0) = false := decide_eq_false hz
  clear hz h4
  go_wp2_with fail
  refine bodyPost_ret (results_list (rs := [.cell 4 25, .cell 5 27, .tmp 6]) rfl (by simp) (.cell (w.heap.size + 1) 25 #[.slice none 0 0, .slice none 0 0] (0, 0) _ rfl (by repeat (first | (with_reducible exact q2) | (with_reducible exact q3) | (with_reducible refine put3 (u0 := .int .i64 0) (u1 := .int .i64 0) (u2 := .int .i64 0) ?_ _ _ _) | (with_reducible refine put2 (u0 := .slice none 0 0) (u1 := .slice none 0 0) ?_ _ _) | (with_reducible refine blk_alloc ?_ _) | (with_reducible refine blk_drew ?_) | (with_reducible refine blk_drewN ?_ _) | (with_reducible refine blk_far ?_ (by dsimp only; omega) _))) Try.underlying25 rfl (by kernel_rfl) (.cell (w.heap.size + 1 + 1) 27 #[.int .i64 0, .int .i64 0, .int .i64 0] (0, 0) _ rfl (by repeat (first | (with_reducible exact q2) | (with_reducible exact q3) | (with_reducible refine put3 (u0 := .int .i64 0) (u1 := .int .i64 0) (u2 := .int .i64 0) ?_ _ _ _) | (with_reducible refine put2 (u0 := .slice none 0 0) (u1 := .slice none 0 0) ?_ _ _) | (with_reducible refine blk_alloc ?_ _) | (with_reducible refine blk_drew ?_) | (with_reducible refine blk_drewN ?_ _) | (with_reducible refine blk_far ?_ (by dsimp only; omega) _))) Try.underlying27 rfl (by kernel_rfl) (.tmp .nil)))) rfl ?_
  exact ⟨_, rfl, QO.nil _, (by repeat (first | (with_reducible exact hB6) | (with_reducible refine vbelow_alloc ?_ _) | (with_reducible refine vbelow_drew ?_) | (with_reducible refine vbelow_drewN ?_ _) | (with_reducible refine vbelow_set ?_ (by first | exact Nat.le_refl _ | (dsimp only; omega) | omega))))⟩
end Go.Proofs.Ytcifbemppbegbaa.Q

/- Layer 10: the document's Claim, where it may. -/
namespace Go.Proofs.Ytcifbemppbegbaa.Q
open Go.RowKit Go.Proofs.YtcifbemppbegbaaW.PrintWords Go.Proofs.YtcifbemppbegbaaW.PrintMore Go.Proofs.YtcifbemppbegbaaW.PrintLast
set_option linter.unusedVariables false
set_option linter.unusedSimpArgs false
/-- What holds messages stands. -/
def K40 (W W' : World) : Prop := ∀ (k : Nat) (cells : Array Value), W.heap[k]? = some (.cells cells 40 (0, 0)) → W'.heap[k]? = W.heap[k]?
theorem K40.rfl' (W : World) : K40 W W := fun _ _ _ => rfl
theorem K40.trans {W W1 W2 : World} (h : K40 W W1) (h' : K40 W1 W2) : K40 W W2 := fun k cells hk => (h' k cells ((h k cells hk).trans hk)).trans (h k cells hk)
theorem K40.on {W W1 : World} (h : Below W.heap.size W W1) : K40 W W1 := fun k _ hk => h.block k (Array.getElem?_eq_some_iff.1 hk).1
theorem K40.set {W : World} {g t : Nat} {cells : Array Value} (hg : W.heap[g]? = some (.cells cells t (0, 0))) (ht : t ≠ 40) (j : Nat) (u : Value) : K40 W (W.setCell ⟨g, j, none⟩ u) := fun k cs hk => Below.heap_setCell W ⟨g, j, none⟩ u k (fun e => typed_ne hg hk ht e.symm)
theorem R40_K40 {W W' : World} {B : Nat} {v : Value} {l : List S40} (h : k40.R 40 W B (fun _ => True) v l) (hk : K40 W W') : k40.R 40 W' B (fun _ => True) v l := Kd.R_mono (Kd.R_move (Kd.R_bound h) (fun k hk' => by
    obtain ⟨_, _, _, q, hq, cells, hc⟩ := hk'
    obtain rfl := (by decide : ∀ q, q ∈ (40 : Nat) :: k40.E → q = 40) q hq
    exact hk k cells hc)) (fun _ hk => hk.1)
/-- A row of numbers has gone on: blocks of other types stand. -/
theorem R3_grown {W W1 : World} {B : Nat} {v : Value} {f : List Int} (hR : (Kd.int .i64).R 3 W B (fun _ => True) v f) (hg : W.grownBy W1 v.ownBlock) (k : Nat) (cells : Array Value) (t : TypeId) (ht : t ≠ 3) (hk : W.heap[k]? = some (.cells cells t (0, 0))) : W1.heap[k]? = some (.cells cells t (0, 0)) := by
  refine (hg.block k (Array.getElem?_eq_some_iff.1 hk).1 (fun e => ?_)).trans hk
  obtain ⟨_, inner, ho, _⟩ := hR
  obtain ⟨cells', hc'⟩ := own_typed ho k e.symm
  rw [hk] at hc'
  injection hc' with hc'
  injection hc' with _ hc'
  exact ht hc'
set_option maxRecDepth 100000 in
set_option maxHeartbeats 4000000 in
theorem RClaim_done (i k : Nat) {v : Value} {l0 : List S61} {l1 : List S40} {w : World} (h : QV w v l0 l1) (ha : rampartref10_asked.f k l0 l1 (i : Int) = some 0) (ho : rampartref10_own.f k l0 l1 = some (l0, l1)) {y : S61} (hx : l0[i]? = some y) (hz : y.f2 ≠ 0) (h4 : y.f4 ≠ 1099511627776) (hl3 : y.f3.length ≤ 1000000) (hn0 : l0.length ≤ 10000) (hr2 : 0 ≤ y.f2 ∧ y.f2 ≤ 1099511627776) (hr4 : 0 ≤ y.f4 ∧ y.f4 ≤ 1099511627776) : Calls Try.prog 10 #[v, .int .i64 (i : Int)] w fun e w' => ∃ v', e = .returned (.tuple #[v', .agg #[.int .i64 (i : Int), .int .i64 y.f4, .int .i64 y.f5], .int .i64 0]) ∧ QO w' v' (l0.set i { y with f2 := y.f2 - 1, f3 := y.f3 ++ [y.f4], f4 := y.f4 + 1 }) l1 ∧ Below w.heap.size w w' := by
  have t1 : ((0 : Int) != 0) = false := rfl
  have hzh := Lib.hid hz
  have h4h := Lib.hid h4
  have e4h := Lib.hid (show IntKind.i64.wrap (y.f4 + 1) = y.f4 + 1 from (i64_w _).trans (w64 (by omega) (by omega)))
  have e2h := Lib.hid (show IntKind.i64.wrap (y.f2 - 1) = y.f2 - 1 from (i64_w _).trans (w64 (by omega) (by omega)))
  clear hz h4
  have hi : i < l0.length := (List.getElem?_eq_some_iff.1 hx).1
  have hi0 : (0 : Int) ≤ (i : Int) := by omega
  have hi1 : (i : Int) < (l0.length : Int) := by omega
  obtain ⟨A0, c0, A1, c1, rfl, h0, h1, hC0, hC1⟩ := h
  go_enter Try.func10, Try.ntmps10
  go_wp2_with fail
  obtain ⟨q1, q2, q3, qz, hBB⟩ := three_blocks w (.cells #[.slice A0 l0.length c0, .slice A1 l1.length c1] 25) (.cells #[.slice none 0 0, .slice none 0 0] 25) (.cells #[.int .i64 0, .int .i64 0, .int .i64 0] 27)
  have hC0' := Kd.C_below hC0 hBB
  have hC1' := Kd.C_below hC1 hBB
  clear hC0 hC1
  generalize ((w.alloc (.cells #[.slice A0 l0.length c0, .slice A1 l1.length c1] 25)).alloc (.cells #[.slice none 0 0, .slice none 0 0] 25)).alloc (.cells #[.int .i64 0, .int .i64 0, .int .i64 0] 27) = w2 at q1 q2 q3 qz hBB hC0' hC1' ⊢
  refine (rampartref10_asked.calls k A0 c0 l0 A1 c1 l1 (i : Int) 0 w2 hC0' h0 hC1' h1 ha).mono ?_
  rintro e w3 ⟨rfl, hb3⟩
  have q1 := heap_on q1 hb3
  have q2 := heap_on q2 hb3
  have q3 := heap_on q3 hb3
  have hB3 := vbelow_step hBB hb3
  have hz3 := hb3.size
  have hC0 := Kd.C_below hC0' hb3
  have hC1 := Kd.C_below hC1' hb3
  obtain ⟨a0, a1, _⟩ := blk2 q1
  obtain ⟨b0, b1, bF⟩ := blk2 q2
  have bF0 := bF 0
  have bF1 := bF 1
  obtain ⟨g0, g1, g2, gF⟩ := blk3 q3
  have gF0 := gF 0
  have gF1 := gF 1
  have gF2 := gF 2
  have k1 : w.heap.size < w3.heap.size := by omega
  have k2 : w.heap.size + 1 < w3.heap.size := by omega
  have k3 : w.heap.size + 1 + 1 < w3.heap.size := by omega
  clear bF gF hBB hb3 hC0' hC1'
  go_wp2_with fail
  refine (rampartref10_own.calls k A0 c0 l0 A1 c1 l1 l0 l1 _ hC0 h0 hC1 h1 ho).mono ?_
  rintro e w4 ⟨v0, v1, rfl, hS, hM, hb4⟩
  obtain ⟨gl, cv, rfl, hcv, hH⟩ := Half.of_S hS (by omega)
  obtain ⟨A2, d2, rfl, hd2, hMQ⟩ := R40_QO hM
  have q2 := heap_on q2 hb4
  have q3 := heap_on q3 hb4
  have hB4 := vbelow_step hB3 hb4
  have hz4 := hb4.size
  have k5 : w.heap.size + 1 < w4.heap.size := by omega
  have k6 : w.heap.size + 1 + 1 < w4.heap.size := by omega
  obtain ⟨A4, c4, o0, o1, o2, o3, o4, o5, oF, hc4, hC4⟩ := hH.rd.cells hx
  have n0 := vcell_alloc o0 (.cells #[.slice (some ⟨gl, 0, none⟩) l0.length cv, .slice A2 l1.length d2] 25)
  have n1 := vcell_alloc o1 (.cells #[.slice (some ⟨gl, 0, none⟩) l0.length cv, .slice A2 l1.length d2] 25)
  have n2 := vcell_alloc o2 (.cells #[.slice (some ⟨gl, 0, none⟩) l0.length cv, .slice A2 l1.length d2] 25)
  have n3 := vcell_alloc o3 (.cells #[.slice (some ⟨gl, 0, none⟩) l0.length cv, .slice A2 l1.length d2] 25)
  have n4 := vcell_alloc o4 (.cells #[.slice (some ⟨gl, 0, none⟩) l0.length cv, .slice A2 l1.length d2] 25)
  have n5 := vcell_alloc o5 (.cells #[.slice (some ⟨gl, 0, none⟩) l0.length cv, .slice A2 l1.length d2] 25)
  clear a0 a1 b0 b1 bF0 bF1 g0 g1 g2 gF0 gF1 gF2 q1 hb4 hC0 hC1 hB3 oF hS hC4
  go_upto_region 6 with fail
  obtain ⟨u1, u2, uz, hB5⟩ := two_blocks w4 (.cells #[.slice (some ⟨gl, 0, none⟩) l0.length cv, .slice A2 l1.length d2] 25) (.cells #[.int .i64 y.f0, .bool y.f1, .int .i64 y.f2, .slice A4 y.f3.length c4, .int .i64 y.f4, .int .i64 y.f5] 61)
  have q2 := heap_on q2 hB5
  have q3 := heap_on q3 hB5
  have hB6 := vbelow_step hB4 hB5
  have hH5 := (hH.on hB5)
  have o3' := vcell hB5 o3
  have hz5 := hB5.size
  have k9 : w4.heap.size < ((w4.alloc (.cells #[.slice (some ⟨gl, 0, none⟩) l0.length cv, .slice A2 l1.length d2] 25)).alloc (.cells #[.int .i64 y.f0, .bool y.f1, .int .i64 y.f2, .slice A4 y.f3.length c4, .int .i64 y.f4, .int .i64 y.f5] 61)).heap.size := by omega
  have k10 : w4.heap.size + 1 < ((w4.alloc (.cells #[.slice (some ⟨gl, 0, none⟩) l0.length cv, .slice A2 l1.length d2] 25)).alloc (.cells #[.int .i64 y.f0, .bool y.f1, .int .i64 y.f2, .slice A4 y.f3.length c4, .int .i64 y.f4, .int .i64 y.f5] 61)).heap.size := by omega
  have k11 : w.heap.size ≤ w4.heap.size := by omega
  have hglt := hH.low.2
  have hM5 := R40_K40 hM (K40.on hB5)
  clear n0 n1 n2 n3 n4 n5 o0 o1 o2 o3 o4 o5 hB5 hB4 uz hH hM hMQ
  generalize (w4.alloc (.cells #[.slice (some ⟨gl, 0, none⟩) l0.length cv, .slice A2 l1.length d2] 25)).alloc (.cells #[.int .i64 y.f0, .bool y.f1, .int .i64 y.f2, .slice A4 y.f3.length c4, .int .i64 y.f4, .int .i64 y.f5] 61) = w5 at u1 u2 q2 q3 hB6 hH5 o3' hM5 hz5 k9 k10 ⊢
  obtain ⟨b0, b1, bF⟩ := blk2 q2
  have bF0 := bF 0
  have bF1 := bF 1
  obtain ⟨g0, g1, g2, gF⟩ := blk3 q3
  have gF0 := gF 0
  have gF1 := gF 1
  have gF2 := gF 2
  obtain ⟨x0, x1, xF⟩ := blk2 u1
  have y0 : w5.cell? ⟨w4.heap.size + 1, 0, none⟩ = some (.int .i64 y.f0) := (cell_in u2).trans rfl
  have y1 : w5.cell? ⟨w4.heap.size + 1, 1, none⟩ = some (.bool y.f1) := (cell_in u2).trans rfl
  have y2 : w5.cell? ⟨w4.heap.size + 1, 2, none⟩ = some (.int .i64 y.f2) := (cell_in u2).trans rfl
  have y3 : w5.cell? ⟨w4.heap.size + 1, 3, none⟩ = some (.slice A4 y.f3.length c4) := (cell_in u2).trans rfl
  have y4 : w5.cell? ⟨w4.heap.size + 1, 4, none⟩ = some (.int .i64 y.f4) := (cell_in u2).trans rfl
  have y5 : w5.cell? ⟨w4.heap.size + 1, 5, none⟩ = some (.int .i64 y.f5) := (cell_in u2).trans rfl
  clear bF gF
  have t2 : (y.f2 == 0) = false := beq_eq_false_iff_ne.2 hzh.out
  have t3 : (y.f4 == 1099511627776) = false := beq_eq_false_iff_ne.2 h4h.out
  have t4 : decide (y.f2 = 0) = false := decide_eq_false hzh.out
  have t5 : decide (y.f4 = 1099511627776) = false := decide_eq_false h4h.out
  have e4 := e4h.out
  have e2 := e2h.out
  go_upto_region 11 with fail
  have hbc := vbelow_alloc (Below.refl w5.heap.size w5) (.cells #[.int .i64 (i : Int), .int .i64 y.f4, .int .i64 y.f5] 27)
  have r1 := heap_alloc_new w5 (.cells #[.int .i64 (i : Int), .int .i64 y.f4, .int .i64 y.f5] 27)
  have q2 := heap_on q2 hbc
  have q3 := heap_on q3 hbc
  have u1 := heap_on u1 hbc
  have u2 := heap_on u2 hbc
  have hH6 := hH5.on hbc
  have o3 := vcell hbc o3'
  have hM6 := R40_K40 hM5 (K40.on hbc)
  have hB7 := vbelow_step hB6 hbc
  have hz6 := hbc.size
  have hR6 := hH6.claims hx o3
  have hzB : w3.heap.size ≤ (w5.alloc (.cells #[.int .i64 (i : Int), .int .i64 y.f4, .int .i64 y.f5] 27)).heap.size := by omega
  have k12 : w5.heap.size < (w5.alloc (.cells #[.int .i64 (i : Int), .int .i64 y.f4, .int .i64 y.f5] 27)).heap.size := by rw [World.size_alloc]; omega
  have k13 : w.heap.size + 1 < w5.heap.size := by omega
  have k14 : w.heap.size + 1 + 1 < w5.heap.size := by omega
  clear b0 b1 bF0 bF1 g0 g1 g2 gF0 gF1 gF2 x0 x1 xF y0 y1 y2 y3 y4 y5 hbc hB6 hM5 hH5 o3'
  generalize w5.heap.size = cb at r1 k9 k10 k12 k13 k14 hz5 hz6 ⊢
  generalize w5.alloc (.cells #[.int .i64 (i : Int), .int .i64 y.f4, .int .i64 y.f5] 27) = w6 at r1 q2 q3 u1 u2 hH6 o3 hM6 hB7 hz6 hR6 hzB k12 ⊢
  obtain ⟨cur6, hcur6, _⟩ := hH6.rd
  obtain ⟨Az, cz, z0, z1, z2, z3, z4, z5, _, _, _⟩ := hH6.rd.cells hx
  have ng1 : gl ≠ w4.heap.size := by omega
  have ng2 : gl ≠ w4.heap.size + 1 := by omega
  have ng3 : gl ≠ cb := by omega
  have ng4 : cb ≠ w4.heap.size + 1 := by omega
  have ng5 : cb ≠ w4.heap.size := by omega
  have hBW : Below w3.heap.size w6 w6 := Below.refl _ _
  have y3 : w6.cell? ⟨w4.heap.size + 1, 3, none⟩ = some (.slice A4 y.f3.length c4) := (cell_in u2).trans rfl
  have y4 : w6.cell? ⟨w4.heap.size + 1, 4, none⟩ = some (.int .i64 y.f4) := (cell_in u2).trans rfl
  go_wp2_with ((with_reducible refine gate_builtin (b := .append) (xs := #[.tmp 43, .tmp 46]) rfl ?_); at_builtin; refine Kd.R_append (Kd.int .i64) (w0 := w6) w3.heap.size rfl (.tmp 43) (.tmp 46) 48 3 (.int .i64 0) 8 rfl Try.underlying48 infoI3 rfl (by decide) (by omega) (.slice A4 y.f3.length c4) y.f3 y.f4 [.int .i64 y.f4] (fun _ => True) (fun _ => False) rfl rfl rfl (fun _ hk => hk.elim) (fun _ _ => trivial) hR6 hBW hzB (by omega) ?_; intro v9 w7 hR7 hb7 hg7 hat7; obtain ⟨A9, c9, e9⟩ := Kd.R_slice hR7; subst e9; obtain ⟨f9, hf9⟩ : ∃ f9, f9 = y.f3 ++ [y.f4] := ⟨_, rfl⟩; rw [← hf9] at hR7 ⊢; have hf9h := Lib.hid hf9; clear hf9; have kp := R3_grown hR6 hg7; have q2 := kp _ _ 25 (by decide) q2; have q3 := kp _ _ 27 (by decide) q3; have u1 := kp _ _ 25 (by decide) u1; have u2 := kp _ _ 61 (by decide) u2; have r1 := kp _ _ 27 (by decide) r1; have lF3 := frozen_in (o := 3) u2; have lF4 := frozen_in (o := 4) u2; have lF2 := frozen_in (o := 2) u2; have y0 : w7.cell? ⟨w4.heap.size + 1, 0, none⟩ = some (.int .i64 y.f0) := (cell_in u2).trans rfl; have y1 : w7.cell? ⟨w4.heap.size + 1, 1, none⟩ = some (.bool y.f1) := (cell_in u2).trans rfl; have y2 : w7.cell? ⟨w4.heap.size + 1, 2, none⟩ = some (.int .i64 y.f2) := (cell_in u2).trans rfl; have y4 : w7.cell? ⟨w4.heap.size + 1, 4, none⟩ = some (.int .i64 y.f4) := (cell_in u2).trans rfl; have y3_ : w7.cell? ⟨w4.heap.size + 1, 3, none⟩ = some (.slice A4 y.f3.length c4) := (cell_in u2).trans rfl; have y5 : w7.cell? ⟨w4.heap.size + 1, 5, none⟩ = some (.int .i64 y.f5) := (cell_in u2).trans rfl; have x0 : w7.cell? ⟨w4.heap.size, 0, none⟩ = some (.slice (some ⟨gl, 0, none⟩) l0.length cv) := (cell_in u1).trans rfl; have x1 : w7.cell? ⟨w4.heap.size, 1, none⟩ = some (.slice A2 l1.length d2) := (cell_in u1).trans rfl;  have hbut := hH6.others hx o3 hg7; have hcur7 := hbut.2.trans hcur6; have zz0 := (cell_in hcur7).trans ((cell_in hcur6).symm.trans z0); have zz1 := (cell_in hcur7).trans ((cell_in hcur6).symm.trans z1); have zz2 := (cell_in hcur7).trans ((cell_in hcur6).symm.trans z2); have zz3 := (cell_in hcur7).trans ((cell_in hcur6).symm.trans z3); have zz4 := (cell_in hcur7).trans ((cell_in hcur6).symm.trans z4); have zz5 := (cell_in hcur7).trans ((cell_in hcur6).symm.trans z5); have gF0 := frozen_in (o := i * 6) (hbut.2.trans hcur6); have gF1 := frozen_in (o := i * 6 + 1) (hbut.2.trans hcur6); have gF2 := frozen_in (o := i * 6 + 2) (hbut.2.trans hcur6); have gF3 := frozen_in (o := i * 6 + 3) (hbut.2.trans hcur6); have gF4 := frozen_in (o := i * 6 + 4) (hbut.2.trans hcur6); have gF5 := frozen_in (o := i * 6 + 5) (hbut.2.trans hcur6))
  have hg9 := blk_lt hcur7
  have e0 := heap_put' (j := 3) (u := .slice A9 f9.length c9) u2
  have e1 := heap_put' (j := 4) (u := .int .i64 (y.f4 + 1)) e0
  have hK3 : K3 w7 (((w7.setCell ⟨w4.heap.size + 1, 3, none⟩ (.slice A9 f9.length c9)).setCell ⟨w4.heap.size + 1, 4, none⟩ (.int .i64 (y.f4 + 1))).setCell ⟨w4.heap.size + 1, 2, none⟩ (.int .i64 (y.f2 - 1))) := ((K3.set u2 (by decide) _ _).trans (K3.set e0 (by decide) _ _)).trans (K3.set e1 (by decide) _ _)
  have hb3 : (((w7.setCell ⟨w4.heap.size + 1, 3, none⟩ (.slice A9 f9.length c9)).setCell ⟨w4.heap.size + 1, 4, none⟩ (.int .i64 (y.f4 + 1))).setCell ⟨w4.heap.size + 1, 2, none⟩ (.int .i64 (y.f2 - 1))).heap[gl]? = w7.heap[gl]? := (Below.heap_setCell _ _ _ gl ng2).trans ((Below.heap_setCell _ _ _ gl ng2).trans (Below.heap_setCell _ _ _ gl ng2))
  have hR9 := R3_K3 hR7
  have rd := (hbut.1.move hb3 hK3).store6 (z := { y with f2 := y.f2 - 1, f3 := f9, f4 := y.f4 + 1 }) hi hR9.2.1 (fun W' hk => hR9.2.2 W' (hK3.trans hk))
  have hkb : KB [w4.heap.size + 1, gl] w7 (((((((((w7.setCell ⟨w4.heap.size + 1, 3, none⟩ (.slice A9 f9.length c9)).setCell ⟨w4.heap.size + 1, 4, none⟩ (.int .i64 (y.f4 + 1))).setCell ⟨w4.heap.size + 1, 2, none⟩ (.int .i64 (y.f2 - 1))).setCell ⟨gl, i * 6, none⟩ (.int .i64 y.f0)).setCell ⟨gl, i * 6 + 1, none⟩ (.bool y.f1)).setCell ⟨gl, i * 6 + 2, none⟩ (.int .i64 (y.f2 - 1))).setCell ⟨gl, i * 6 + 3, none⟩ (.slice A9 f9.length c9)).setCell ⟨gl, i * 6 + 4, none⟩ (.int .i64 (y.f4 + 1))).setCell ⟨gl, i * 6 + 5, none⟩ (.int .i64 y.f5)) := (by repeat (first | (with_reducible exact KB.refl _ _) | (with_reducible refine KB.alloc ?_ _) | (with_reducible refine KB.drew ?_) | (with_reducible refine KB.drewN ?_ _) | (with_reducible refine KB.set ?_ (by first | (left; simp; done) | (right; first | exact Nat.le_refl _ | (dsimp only; omega))) _)))
  have hM7 : k40.R 40 w7 w3.heap.size (fun _ => True) (.slice A2 l1.length d2) l1 := R40_K40 hM6 (fun k cells hk => (kp k cells 40 (by decide) hk).trans hk.symm)
  have hM8 := R40_KB hM7 hkb (fun b hb => by rcases List.mem_cons.1 hb with e | hb; (subst e; exact .inr ⟨_, _, u2, by decide⟩); (have e := List.mem_singleton.1 hb; subst e; exact .inr ⟨_, _, hcur7, by decide⟩))
  have no : ∀ b, b ≠ w4.heap.size + 1 → b ≠ gl → b ∉ [w4.heap.size + 1, gl] := fun b h1 h2 hm => by
    rcases List.mem_cons.1 hm with e | hm
    · exact h1 e
    · exact h2 (List.mem_singleton.1 hm)
  have q2 := (hkb.keep _ (blk_lt q2) (no _ (by omega) (typed_ne q2 hcur7 (by decide)))).trans q2
  have q3 := (hkb.keep _ (blk_lt q3) (no _ (by omega) (typed_ne q3 hcur7 (by decide)))).trans q3
  have r1 := (hkb.keep _ (blk_lt r1) (no _ ng4 (typed_ne r1 hcur7 (by decide)))).trans r1
  have u1 := (hkb.keep _ (blk_lt u1) (no _ (by omega) (typed_ne u1 hcur7 (by decide)))).trans u1
  have hwgl : w.heap.size ≤ gl := Nat.le_trans (by omega) hH6.low.1
  have hB8 : Below w.heap.size w w7 := hB7.trans (hb7.mono (by omega))
  have hB9 : Below w.heap.size w (((((((((w7.setCell ⟨w4.heap.size + 1, 3, none⟩ (.slice A9 f9.length c9)).setCell ⟨w4.heap.size + 1, 4, none⟩ (.int .i64 (y.f4 + 1))).setCell ⟨w4.heap.size + 1, 2, none⟩ (.int .i64 (y.f2 - 1))).setCell ⟨gl, i * 6, none⟩ (.int .i64 y.f0)).setCell ⟨gl, i * 6 + 1, none⟩ (.bool y.f1)).setCell ⟨gl, i * 6 + 2, none⟩ (.int .i64 (y.f2 - 1))).setCell ⟨gl, i * 6 + 3, none⟩ (.slice A9 f9.length c9)).setCell ⟨gl, i * 6 + 4, none⟩ (.int .i64 (y.f4 + 1))).setCell ⟨gl, i * 6 + 5, none⟩ (.int .i64 y.f5)) := (by repeat (first | (with_reducible exact hB8) | (with_reducible refine vbelow_alloc ?_ _) | (with_reducible refine vbelow_drew ?_) | (with_reducible refine vbelow_drewN ?_ _) | (with_reducible refine vbelow_set ?_ (by first | exact Nat.le_refl _ | (dsimp only; omega) | omega))))
  clear hkb hM7 hR9 hK3 hb3 e0 e1 u2 hcur7 hcur6 hbut zz0 zz1 zz2 zz3 zz4 zz5 gF0 gF1 gF2 gF3 gF4 gF5 y0 y1 y2 y3_ y4 y5 x0 x1 lF2 lF3 lF4 hR7 hb7 hg7 hat7 kp no hB8 hB7 hM6 hH6 hR6 z0 z1 z2 z3 z4 z5 y3
  generalize ((((((((w7.setCell ⟨w4.heap.size + 1, 3, none⟩ (.slice A9 f9.length c9)).setCell ⟨w4.heap.size + 1, 4, none⟩ (.int .i64 (y.f4 + 1))).setCell ⟨w4.heap.size + 1, 2, none⟩ (.int .i64 (y.f2 - 1))).setCell ⟨gl, i * 6, none⟩ (.int .i64 y.f0)).setCell ⟨gl, i * 6 + 1, none⟩ (.bool y.f1)).setCell ⟨gl, i * 6 + 2, none⟩ (.int .i64 (y.f2 - 1))).setCell ⟨gl, i * 6 + 3, none⟩ (.slice A9 f9.length c9)).setCell ⟨gl, i * 6 + 4, none⟩ (.int .i64 (y.f4 + 1))).setCell ⟨gl, i * 6 + 5, none⟩ (.int .i64 y.f5) = w8 at rd hM8 q2 q3 r1 u1 hB9 ⊢
  obtain ⟨b0, b1, bF⟩ := blk2 q2
  have bF0 := bF 0
  have bF1 := bF 1
  obtain ⟨g0, g1, g2, gF⟩ := blk3 q3
  have gF0 := gF 0
  have gF1 := gF 1
  have gF2 := gF 2
  obtain ⟨x0, x1, _⟩ := blk2 u1
  obtain ⟨cc0, cc1, cc2, _⟩ := blk3 r1
  clear bF gF
  have s1 : w.heap.size + 1 ≠ w4.heap.size := by omega
  have s2 : w.heap.size + 1 + 1 ≠ w4.heap.size := by omega
  have s3 : w.heap.size + 1 ≠ cb := by omega
  have s4 : w.heap.size + 1 + 1 ≠ cb := by omega
  have hmx : Try.prog.follows .mixedOrders = true := by kernel_rfl
  go_region
  all_goals go_wp2_with fail
  all_goals refine bodyPost_ret (results_list (rs := [.cell 4 25, .cell 5 27, .tmp 6]) rfl (by simp) (.cell (w.heap.size + 1) 25 #[.slice (some ⟨gl, 0, none⟩) l0.length cv, .slice A2 l1.length d2] (0, 0) _ rfl (by repeat (first | (with_reducible exact q2) | (with_reducible exact q3) | (with_reducible refine put3 (u0 := .int .i64 0) (u1 := .int .i64 0) (u2 := .int .i64 0) ?_ _ _ _) | (with_reducible refine put2 (u0 := .slice none 0 0) (u1 := .slice none 0 0) ?_ _ _) | (with_reducible refine blk_alloc ?_ _) | (with_reducible refine blk_drew ?_) | (with_reducible refine blk_drewN ?_ _) | (with_reducible refine blk_far ?_ (by dsimp only; omega) _))) Try.underlying25 rfl (by kernel_rfl) (.cell (w.heap.size + 1 + 1) 27 #[.int .i64 (i : Int), .int .i64 y.f4, .int .i64 y.f5] (0, 0) _ rfl (by repeat (first | (with_reducible exact q2) | (with_reducible exact q3) | (with_reducible refine put3 (u0 := .int .i64 0) (u1 := .int .i64 0) (u2 := .int .i64 0) ?_ _ _ _) | (with_reducible refine put2 (u0 := .slice none 0 0) (u1 := .slice none 0 0) ?_ _ _) | (with_reducible refine blk_alloc ?_ _) | (with_reducible refine blk_drew ?_) | (with_reducible refine blk_drewN ?_ _) | (with_reducible refine blk_far ?_ (by dsimp only; omega) _))) Try.underlying27 rfl (by kernel_rfl) (.tmp .nil)))) rfl ?_
  all_goals refine ⟨_, rfl, ⟨some ⟨gl, 0, none⟩, cv, A2, d2, by rw [List.length_set], by rw [List.length_set]; exact hcv, hd2, fun W' hk' => (fun hk2 => ⟨by rw [← hf9h.out]; exact (rd.KQ hk2).C (by rw [List.length_set]; omega), (Kd.R_reads' (R40_KQ hM8 hk2)).2.2⟩) (KQ.trans (KB.kq (bs := [w.heap.size + 1, w.heap.size + 1 + 1]) (w := w8) (by repeat (first | (with_reducible exact KB.refl _ _) | (with_reducible refine KB.alloc ?_ _) | (with_reducible refine KB.drew ?_) | (with_reducible refine KB.drewN ?_ _) | (with_reducible refine KB.set ?_ (by first | (left; simp; done) | (right; first | exact Nat.le_refl _ | (dsimp only; omega))) _))) (fun b hb => by rcases List.mem_cons.1 hb with e | hb; (subst e; exact ⟨_, _, q2, by decide⟩); (have e := List.mem_singleton.1 hb; subst e; exact ⟨_, _, q3, by decide⟩))) hk')⟩, (by repeat (first | (with_reducible exact hB9) | (with_reducible refine vbelow_alloc ?_ _) | (with_reducible refine vbelow_drew ?_) | (with_reducible refine vbelow_drewN ?_ _) | (with_reducible refine vbelow_set ?_ (by first | exact Nat.le_refl _ | (dsimp only; omega) | omega))))⟩
end Go.Proofs.Ytcifbemppbegbaa.Q
