/- Layer 3: the request of bytes, by the program, for whatever bytes. -/
import Derived.Test.YtbbnaagfnpeloaaDoorE1
import Derived.Test.YtbbnaagfnpeloaaDoorP2
namespace Go.Proofs.YtbbnaagfnpeloaaDoor.Q
open Go.RowKit Go.Proofs.YtbbnaagfnpeloaaDoorW.PrintWords Go.Proofs.YtbbnaagfnpeloaaDoorW.PrintMore
set_option linter.unusedVariables false
set_option linter.unusedSimpArgs false

set_option maxHeartbeats 1000000 in
set_option maxRecDepth 100000 in
theorem parse25_bad (A : Option Addr) (n c : Nat) (hn : n ≠ 16) (hn1 : n ≤ 9223372036854775807) (w : World) : Calls Tryd.prog 25 #[.slice A n c] w fun e w' => e = .returned (.tuple #[.agg #[.int .u8 0, .int .u8 0, .int .u8 0, .int .u32 0, .int .u64 0], .int .i64 30]) ∧ Below w.heap.size w w' := by
  have hb : (((n : Nat) : Int) != 16) = true := by rw [bne_iff_ne]; omega
  go_enter Tryd.func25, Tryd.ntmps25
  go_wp2
  refine bodyPost_ret (v := .tuple #[.agg #[.int .u8 0, .int .u8 0, .int .u8 0, .int .u32 0, .int .u64 0], .int .i64 30]) (by simp [results, Tryd.results25, go_sem]) rfl ⟨rfl, (by repeat (first | (with_reducible exact Below.refl _ _) | (with_reducible refine vbelow_alloc ?_ _) | (with_reducible refine vbelow_drew ?_) | (with_reducible refine vbelow_drewN ?_ _) | (with_reducible refine vbelow_set ?_ (by first | exact Nat.le_refl _ | (dsimp only; omega) | omega))))⟩

set_option maxHeartbeats 1000000 in
set_option maxRecDepth 100000 in
theorem parse25_mark (A : Option Addr) (c : Nat) (x0 x1 x2 x3 x4 x5 x6 x7 x8 x9 x10 x11 x12 x13 x14 x15 : Int) (w : World) (hC : (Kd.int .u8).C w A 16 [x0, x1, x2, x3, x4, x5, x6, x7, x8, x9, x10, x11, x12, x13, x14, x15]) (hc : 16 ≤ c) (h3 : (x3 != 0) = true) :
    Calls Tryd.prog 25 #[.slice A 16 c] w fun e w' => e = .returned (.tuple #[.agg #[.int .u8 0, .int .u8 0, .int .u8 0, .int .u32 0, .int .u64 0], .int .i64 30]) ∧ Below w.heap.size w w' := by
  obtain ⟨ad, rfl, c3⟩ := Kd.at_int hC 3 (by decide) (by decide)
  have c3' : w.cell? ⟨ad.block, ad.off + 3, none⟩ = some (.int .u8 x3) := c3
  have b3 : ad.block < w.heap.size := by have h_ := World.block_lt_of_cell? _ _ c3'; exact h_
  clear c3 hC
  go_enter Tryd.func25, Tryd.ntmps25
  go_wp2
  refine bodyPost_ret (v := .tuple #[.agg #[.int .u8 0, .int .u8 0, .int .u8 0, .int .u32 0, .int .u64 0], .int .i64 30]) (by simp [results, Tryd.results25, go_sem]) rfl ⟨rfl, (by repeat (first | (with_reducible exact Below.refl _ _) | (with_reducible refine vbelow_alloc ?_ _) | (with_reducible refine vbelow_drew ?_) | (with_reducible refine vbelow_drewN ?_ _) | (with_reducible refine vbelow_set ?_ (by first | exact Nat.le_refl _ | (dsimp only; omega) | omega))))⟩

set_option maxHeartbeats 8000000 in
set_option maxRecDepth 100000 in
theorem parse25_16 (A : Option Addr) (c : Nat) (x0 x1 x2 x3 x4 x5 x6 x7 x8 x9 x10 x11 x12 x13 x14 x15 : Int) (l4 : 0 ≤ x4) (u4 : x4 < 256) (l5 : 0 ≤ x5) (u5 : x5 < 256) (l6 : 0 ≤ x6) (u6 : x6 < 256) (l7 : 0 ≤ x7) (u7 : x7 < 256) (l8 : 0 ≤ x8) (u8 : x8 < 256) (l9 : 0 ≤ x9) (u9 : x9 < 256) (l10 : 0 ≤ x10) (u10 : x10 < 256) (l11 : 0 ≤ x11) (u11 : x11 < 256) (l12 : 0 ≤ x12) (u12 : x12 < 256) (l13 : 0 ≤ x13) (u13 : x13 < 256) (l14 : 0 ≤ x14) (u14 : x14 < 256) (l15 : 0 ≤ x15) (u15 : x15 < 256) (w : World) (hP : PartsHeld w) (hC : (Kd.int .u8).C w A 16 [x0, x1, x2, x3, x4, x5, x6, x7, x8, x9, x10, x11, x12, x13, x14, x15]) (hc : 16 ≤ c) (h3 : (x3 != 0) = false) (q : Bool) (hq : isReq x0 x1 x2 (num4 x4 x5 x6 x7) (num8 x8 x9 x10 x11 x12 x13 x14 x15) = q) :
    Calls Tryd.prog 25 #[.slice A 16 c] w fun e w' => e = .returned (.tuple #[.agg #[.int .u8 (if q = true then x0 else 0), .int .u8 (if q = true then x1 else 0), .int .u8 (if q = true then x2 else 0), .int .u32 (if q = true then num4 x4 x5 x6 x7 else 0), .int .u64 (if q = true then num8 x8 x9 x10 x11 x12 x13 x14 x15 else 0)], .int .i64 (if q = true then 0 else 30)]) ∧ Below w.heap.size w w' := by
  obtain ⟨n0, n1, n2⟩ := num4_lt x4 x5 x6 x7 l4 u4 l5 u5 l6 u6 l7 u7
  have hg4 := get4 x0 x1 x2 x3 x4 x5 x6 x7 x8 x9 x10 x11 x12 x13 x14 x15 l4 u4 l5 u5 l6 u6 l7 u7
  have hg8 := get8 x0 x1 x2 x3 x4 x5 x6 x7 x8 x9 x10 x11 x12 x13 x14 x15 l8 u8 l9 u9 l10 u10 l11 u11 l12 u12 l13 u13 l14 u14 l15 u15
  have hck := check_eq x0 x1 x2 (num4 x4 x5 x6 x7) (num8 x8 x9 x10 x11 x12 x13 x14 x15)
  rw [hq] at hck
  have e4 : IntKind.u32.wrap (num4 x4 x5 x6 x7) = num4 x4 x5 x6 x7 := wraps_u32 _ n0 (by omega)
  generalize num4 x4 x5 x6 x7 = h at *
  generalize num8 x8 x9 x10 x11 x12 x13 x14 x15 = p at *
  obtain ⟨ad, hA, c0⟩ := Kd.at_int hC 0 (by decide) (by decide)
  subst hA
  obtain ⟨ad', hA, c1⟩ := Kd.at_int hC 1 (by decide) (by decide)
  obtain rfl := Option.some.inj hA
  obtain ⟨ad', hA, c2⟩ := Kd.at_int hC 2 (by decide) (by decide)
  obtain rfl := Option.some.inj hA
  obtain ⟨ad', hA, c3⟩ := Kd.at_int hC 3 (by decide) (by decide)
  obtain rfl := Option.some.inj hA
  have k0 : w.cell? ad = some (.int .u8 x0) := c0
  have k1 : w.cell? ⟨ad.block, ad.off + 1, none⟩ = some (.int .u8 x1) := c1
  have k2 : w.cell? ⟨ad.block, ad.off + 2, none⟩ = some (.int .u8 x2) := c2
  have k3 : w.cell? ⟨ad.block, ad.off + 3, none⟩ = some (.int .u8 x3) := c3
  have b3 : ad.block < w.heap.size := by have h_ := World.block_lt_of_cell? _ _ k3; exact h_
  clear c0 c1 c2 c3 hA
  obtain ⟨g0, g1, g2, g3⟩ := hP
  have HC := Lib.hid hC
  have HK := Lib.hid hck
  have H4 := Lib.hid hg4
  have H8 := Lib.hid hg8
  have E4 := Lib.hid e4
  clear hC hck hg4 hg8 e4 hq l4 u4 l5 u5 l6 u6 l7 u7 l8 u8 l9 u9 l10 u10 l11 u11 l12 u12 l13 u13 l14 u14 l15 u15 n2
  go_enter Tryd.func25, Tryd.ntmps25
  go_upto_region 3 with fail
  have HBq : Below w.heap.size w (w.alloc (.cells #[.int .u8 0, .int .u8 0, .int .u8 0, .int .u32 0, .int .u64 0] 26)) := vbelow_alloc (Below.refl _ _) _
  have hz0 : w.heap.size < (w.alloc (.cells #[.int .u8 0, .int .u8 0, .int .u8 0, .int .u32 0, .int .u64 0] 26)).heap.size := by simp
  have r0 : ∀ i : Nat, i < 5 → ((w.alloc (.cells #[.int .u8 0, .int .u8 0, .int .u8 0, .int .u32 0, .int .u64 0] 26)).cell? ⟨w.heap.size, i, none⟩).isSome = true := by
    intro i hi
    rw [World.cell?_alloc_new]
    match i, hi with
    | 0, _ => rfl
    | 1, _ => rfl
    | 2, _ => rfl
    | 3, _ => rfl
    | 4, _ => rfl
  have f0 : ∀ i : Nat, (w.alloc (.cells #[.int .u8 0, .int .u8 0, .int .u8 0, .int .u32 0, .int .u64 0] 26)).frozen? ⟨w.heap.size, i, none⟩ = false := fun i => by simp [go_sem]
  obtain ⟨wq, hwq⟩ : ∃ wq, wq = w.alloc (.cells #[.int .u8 0, .int .u8 0, .int .u8 0, .int .u32 0, .int .u64 0] 26) := ⟨_, rfl⟩
  rw [← hwq] at HBq hz0 r0 f0 ⊢
  clear hwq
  have k0' := vcell HBq k0
  have k1' := vcell HBq k1
  have k2' := vcell HBq k2
  have g0' := vcell HBq g0
  have g1' := vcell HBq g1
  have g2' := vcell HBq g2
  have g3' := vcell HBq g3
  have HC' := Lib.hid (Kd.C_below HC.out HBq)
  have K4 : RowKit.Hid (∀ W : World, Below wq.heap.size wq W → Calls Tryd.prog 34 #[.agg #[.int .i64 4, .int .i64 4], .slice (some ad) 16 c] W (fun e w' => e = .returned (.int .u64 h) ∧ Below W.heap.size W w')) := Lib.hid fun W hW => (wire_part_get.calls 5 4 4 (some ad) c [x0, x1, x2, x3, x4, x5, x6, x7, x8, x9, x10, x11, x12, x13, x14, x15] h W (Kd.C_below HC'.out hW) hc H4.out)
  have K8 : RowKit.Hid (∀ W : World, Below wq.heap.size wq W → Calls Tryd.prog 34 #[.agg #[.int .i64 8, .int .i64 8], .slice (some ad) 16 c] W (fun e w' => e = .returned (.int .u64 p) ∧ Below W.heap.size W w')) := Lib.hid fun W hW => (wire_part_get.calls 9 8 8 (some ad) c [x0, x1, x2, x3, x4, x5, x6, x7, x8, x9, x10, x11, x12, x13, x14, x15] p W (Kd.C_below HC'.out hW) hc H8.out)
  have hbl0 := World.block_lt_of_cell? _ _ k0'
  have hblg := World.block_lt_of_cell? _ _ g0'
  have hblp := World.block_lt_of_cell? _ _ g2'
  dsimp only at hblg hblp
  have l2 : ∀ m : Nat, m < m + 1 + 1 := fun m => by omega
  clear k0 k1 k2 k3 g0 g1 g2 g3 b3 HC HC' H4 H8
  go_cut [4] (fun s4 wx => ∃ g : Nat, s4 = .pointer (some ⟨g, 0, none⟩) ∧ wx.cell? ⟨g, 0, none⟩ = some (.int .u8 x0) ∧ wx.cell? ⟨g, 1, none⟩ = some (.int .u8 x1) ∧ wx.cell? ⟨g, 2, none⟩ = some (.int .u8 x2) ∧ wx.cell? ⟨g, 3, none⟩ = some (.int .u32 h) ∧ wx.cell? ⟨g, 4, none⟩ = some (.int .u64 p) ∧ Below wq.heap.size wq wx ∧ wq.heap.size ≤ g ∧ g < wx.heap.size)
  case first =>
    go_region_held3 (fun W_ => W_.cell? ad = some (.int .u8 x0) ∧ W_.cell? ⟨ad.block, ad.off + 1, none⟩ = some (.int .u8 x1) ∧ W_.cell? ⟨ad.block, ad.off + 2, none⟩ = some (.int .u8 x2) ∧ W_.cell? ⟨0, 0, none⟩ = some (.int .i64 4) ∧ W_.cell? ⟨0, 1, none⟩ = some (.int .i64 4) ∧ W_.cell? ⟨1, 0, none⟩ = some (.int .i64 8) ∧ W_.cell? ⟨1, 1, none⟩ = some (.int .i64 8) ∧ Below wq.heap.size wq W_) ((repeat' apply And.intro) <;> first | (with_reducible assumption) | ((repeat (first | (with_reducible assumption) | ((with_reducible refine vcell_new ?_); rfl) | ((with_reducible refine vcell_new' ?_ ?_); (focus (simp only [World.size_alloc, World.size_drew, World.size_setCell]; done)); rfl) | (with_reducible refine vcell_drew ?_) | ((with_reducible refine vcell_set ?_ ?_); focus (first | (dsimp only; omega) | omega)) | (with_reducible refine vcell_alloc ?_ _) | (with_reducible refine vcell (by assumption) ?_))); done) | ((repeat (first | (with_reducible assumption) | (with_reducible exact Below.refl _ _) | (with_reducible refine vbelow_alloc ?_ _) | (with_reducible refine vbelow_drew ?_) | ((with_reducible refine vbelow_set' ?_ ?_); focus (first | (dsimp only; omega) | omega)) | (with_reducible refine vbelow_next (by assumption) ?_))); done) | go_keep) (first | (go_at_call 34; with_reducible refine (K4.out _ ?_).mono ?_; (focus (repeat (first | (with_reducible assumption) | (with_reducible exact Below.refl _ _) | (with_reducible refine vbelow_alloc ?_ _) | (with_reducible refine vbelow_drew ?_) | (with_reducible refine vbelow_next (by assumption) ?_)))); rintro e W9 ⟨rfl, hb9⟩; obtain ⟨hcN, hfN⟩ := vbcell hb9; have hzN := hb9.size; (try simp only [World.size_alloc, World.size_drew] at hzN); (try have hzN1 := Nat.lt_of_succ_le hzN)) | (go_at_call 34; with_reducible refine (K8.out _ ?_).mono ?_; (focus (repeat (first | (with_reducible assumption) | (with_reducible exact Below.refl _ _) | (with_reducible refine vbelow_alloc ?_ _) | (with_reducible refine vbelow_drew ?_) | (with_reducible refine vbelow_next (by assumption) ?_)))); rintro e W8 ⟨rfl, hb8⟩; obtain ⟨hcM, hfM⟩ := vbcell hb8; have hzM := hb8.size; (try simp only [World.size_alloc, World.size_drew] at hzM); (try have hzM1 := Nat.lt_of_succ_le hzM)))
    all_goals go_wp2_with fail
    all_goals
      have e4 := E4.out
      go_meet
      refine ⟨_, rfl, ?_, ?_, ?_, ?_, ?_, ?_, ?_, ?_⟩
      all_goals first | (simp [go_sem, *]; done) | omega | ((try simp only [World.size_alloc, World.size_drew, World.size_setCell]); omega) | (repeat (first | (with_reducible assumption) | (with_reducible exact Below.refl _ _) | (with_reducible refine vbelow_alloc ?_ _) | (with_reducible refine vbelow_drew ?_) | ((with_reducible refine vbelow_set' ?_ ?_); focus (first | (dsimp only; omega) | omega)) | (with_reducible refine vbelow_next (by assumption) ?_)))
  case rest =>
    obtain ⟨g, rfl, d0, d1, d2, d3, d4, hbx, hgx, hgw⟩ := hcut
    have HBc : Below w.heap.size w wc := vbelow_next hbx HBq
    have s0 : ∀ i : Nat, i < 5 → (wc.cell? ⟨w.heap.size, i, none⟩).isSome = true := fun i hi => by rw [hbx.cell (p := ⟨w.heap.size, i, none⟩) hz0]; exact r0 i hi
    have s1 : ∀ i : Nat, wc.frozen? ⟨w.heap.size, i, none⟩ = false := fun i => (hbx.frozen (p := ⟨w.heap.size, i, none⟩) hz0).trans (f0 i)
    have hzc : w.heap.size < wc.heap.size := Nat.lt_of_lt_of_le hz0 hbx.size
    clear k0' k1' k2' g0' g1' g2' g3' hbl0 hblg hblp l2 r0 f0 K4 K8 E4 n0 n1
    go_wp2_with fail
    refine (wire_Check.calls x0 x1 x2 h p _ _ HK.out).mono ?_
    rintro e w1 ⟨rfl, hb1⟩
    have z0 := s0 0 (by decide)
    have z1 := s0 1 (by decide)
    have z2 := s0 2 (by decide)
    have z3 := s0 3 (by decide)
    have z4 := s0 4 (by decide)
    rw [← hb1.cell (p := ⟨w.heap.size, 0, none⟩) hzc] at z0
    rw [← hb1.cell (p := ⟨w.heap.size, 1, none⟩) hzc] at z1
    rw [← hb1.cell (p := ⟨w.heap.size, 2, none⟩) hzc] at z2
    rw [← hb1.cell (p := ⟨w.heap.size, 3, none⟩) hzc] at z3
    rw [← hb1.cell (p := ⟨w.heap.size, 4, none⟩) hzc] at z4
    obtain ⟨y0, z0⟩ := Option.isSome_iff_exists.mp z0
    obtain ⟨y1, z1⟩ := Option.isSome_iff_exists.mp z1
    obtain ⟨y2, z2⟩ := Option.isSome_iff_exists.mp z2
    obtain ⟨y3, z3⟩ := Option.isSome_iff_exists.mp z3
    obtain ⟨y4, z4⟩ := Option.isSome_iff_exists.mp z4
    have t1 : ∀ i : Nat, w1.frozen? ⟨w.heap.size, i, none⟩ = false := fun i => (hb1.frozen (p := ⟨w.heap.size, i, none⟩) hzc).trans (s1 i)
    have d0' := vcell hb1 d0
    have d1' := vcell hb1 d1
    have d2' := vcell hb1 d2
    have d3' := vcell hb1 d3
    have d4' := vcell hb1 d4
    have HB1 : Below w.heap.size w w1 := vbelow_next hb1 HBc
    have hne : ¬ (g = w.heap.size) := by omega
    clear s0 s1 d0 d1 d2 d3 d4 HK
    cases q with
    | true =>
      go_wp2
      refine bodyPost_ret (v := .tuple #[.agg #[.int .u8 x0, .int .u8 x1, .int .u8 x2, .int .u32 h, .int .u64 p], .int .i64 0]) (by simp [results, Tryd.results25, go_sem, *]) rfl ⟨by simp, ?_⟩
      exact vbelow_set (vbelow_set (vbelow_set (vbelow_set (vbelow_set HB1 (Nat.le_refl _)) (Nat.le_refl _)) (Nat.le_refl _)) (Nat.le_refl _)) (Nat.le_refl _)
    | false =>
      go_wp2
      refine bodyPost_ret (v := .tuple #[.agg #[.int .u8 0, .int .u8 0, .int .u8 0, .int .u32 0, .int .u64 0], .int .i64 30]) (by simp [results, Tryd.results25, go_sem, *]) rfl ⟨by simp, ?_⟩
      exact vbelow_set (vbelow_set (vbelow_set (vbelow_set (vbelow_set HB1 (Nat.le_refl _)) (Nat.le_refl _)) (Nat.le_refl _)) (Nat.le_refl _)) (Nat.le_refl _)

end Go.Proofs.YtbbnaagfnpeloaaDoor.Q
