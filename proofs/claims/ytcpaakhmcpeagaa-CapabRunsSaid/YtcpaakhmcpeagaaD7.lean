/- Layer 11: the walk of the law CapabRuns. -/
import Derived.Test.YtcpaakhmcpeagaaD6
import Derived.Test.YtcpaakhmcpeagaaC10
namespace Go.Proofs.Ytcpaakhmcpeagaa.Q
open Go.RowKit Go.Proofs.YtcpaakhmcpeagaaW.PrintWords Go.Proofs.YtcpaakhmcpeagaaW.PrintMore
set_option linter.unusedVariables false
set_option linter.unusedSimpArgs false
set_option maxHeartbeats 8000000 in
set_option maxRecDepth 100000 in
theorem runs6 (w : World) (n : Nat) (hn : n ≤ 32) (A0 : Option Addr) (c0 : Nat) (ops : List Oq) (hO : OpsAt w A0 ops) (hc : ops.length ≤ 9223372036854775807) (hx y : Int) (h0 : 0 ≤ hx) (h1 : hx < 4294967296) (y0 : 0 ≤ y) (y1 : y ≤ 255) : Calls Try.prog 6 #[.int .i64 n, .slice A0 ops.length c0, .int .u32 hx, .int .u8 y] w fun e w' => e = .returned (.bool true) ∧ Below w.heap.size w w' := by
  go_enter Try.func6, Try.ntmps6
  go_wp2_with fail
  refine (new9' _ n hn).mono ?_
  rintro e w1 ⟨rfl, T1, hb1⟩
  go_wp2_with fail
  refine (rnew18 _ n hn).mono ?_
  rintro e w2 ⟨A, cc, rfl, R2, hA, hb2⟩
  have T2 := T1.below hb2
  have hAb : some w.heap.size ≠ A.map (·.block) := fun e => by
    cases hA_ : A with
    | none => rw [hA_] at e; cases e
    | some a =>
      rw [hA_] at e
      injection e with e
      obtain ⟨_, _, cs, hcs⟩ := hA a hA_
      have e2 : w.heap.size = a.block := e
      rw [← e2, show w2.heap[w.heap.size]? = _ from T2] at hcs
      injection hcs with hcs
      injection hcs with _ hcs
      exact absurd hcs (by decide)
  have S0 : DS w w.heap.size w1.heap.size A cc n w2 freshP := ⟨T2, R2, freshP_ok, vbelow_step hb1 hb2, Nat.le_refl _, fun a e => Nat.le_trans hb1.size (hA a e).1, fun a e => (hA a e).2.1, hAb⟩
  obtain ⟨rb, hrb⟩ : ∃ rb, rb = w1.heap.size := ⟨_, rfl⟩
  rw [← hrb] at S0 ⊢
  clear hrb hA hAb R2 T1 T2
  go_wp2
  go_loopw [13] (fun v13 wr => ∃ (k : Nat) (P : Nat → Pl), k ≤ 80 ∧ v13 = .int .i64 k ∧ DS w w.heap.size rb A cc n wr P) (fun v13 _ => 81 - (intOf v13).toNat)
  case atStart => exact ⟨0, freshP, by omega, rfl, S0⟩
  case round =>
    clear S0
    obtain ⟨k, P, hk, rfl, S⟩ := hrel
    by_cases hlt : k < ops.length ∧ k < 80
    · obtain ⟨adO, o, ho_, hfine, rfl, C0, C1, C2, C3, C4⟩ := hO.get k hlt.1
      obtain ⟨f0, f1, f2, f3⟩ := hfine
      clear ho_
      have D0 := vcell S.low C0
      have D1 := vcell S.low C1
      have D2 := vcell S.low C2
      have D3 := vcell S.low C3
      have D4 := vcell S.low C4
      have hk0 : (0 : Int) ≤ (k : Int) := by omega
      have hkl : (k : Int) < (ops.length : Int) := by omega
      have hd1 : decide ((k : Int) < (ops.length : Int)) = true := decide_eq_true hkl
      have hd2 : decide ((k : Int) < 80) = true := decide_eq_true (by omega)
      go_wp2_with fail
      refine (do19 w w.heap.size rb A cc n _ P hn S o.kd o.ch o.r o.h o.k f0 f1 f2 f3).mono ?_
      rintro e u1 ⟨x, P2, rfl, x0, x1, S2⟩
      clear D0 D1 D2 D3 D4 S
      go_wp2_with fail
      refine (left20 _ w.heap.size P2 n hn S2.ok S2.tab).mono ?_
      rintro e u2 ⟨rfl, hb2⟩
      have S3 := S2.below hb2
      go_wp2_with fail
      refine (rleft21 _ rb A cc n P2 hn S3.ok S3.rt).mono ?_
      rintro e u3 ⟨rfl, hb3⟩
      have S4 := S3.below hb3
      go_wp2_with fail
      refine (live17 _ w.heap.size P2 n hn S4.ok S4.tab).mono ?_
      rintro e u4 ⟨v4, rfl, HR4, hb4⟩
      have S5 := S4.below hb4
      obtain ⟨Al, cl, rfl⟩ := Kd.R_slice HR4
      go_wp2_with fail
      refine (rlive23 _ rb A cc n P2 hn S5.ok S5.rt).mono ?_
      rintro e u5 ⟨v5, rfl, HR5, hb5⟩
      have S6 := S5.below hb5
      obtain ⟨Ar, cr, rfl⟩ := Kd.R_slice HR5
      have hll := liveF_le P2 n
      go_wp2_with fail
      refine (same22 _ (liveF P2 n) (by omega) Al Ar cl cr (Kd.C_below (Kd.R_reads' HR4).2.2 hb5) (Kd.R_reads' HR4).2.1 (Kd.R_reads' HR5).2.2 (Kd.R_reads' HR5).2.1).mono ?_
      rintro e u6 ⟨rfl, hb6⟩
      have S7 := S6.below hb6
      clear S2 S3 S4 S5 S6 HR4 HR5 hb2 hb3 hb4 hb5 hb6
      have D3 := vcell S7.low C3
      have S8 := S7.alloc (.cells #[.int .u32 hx, .int .u32 x, .int .u32 o.h] 31)
      have E0 : (u6.alloc (.cells #[.int .u32 hx, .int .u32 x, .int .u32 o.h] 31)).cell? ⟨u6.heap.size, 0, none⟩ = some (.int .u32 hx) := vcell_new rfl
      have E1 : (u6.alloc (.cells #[.int .u32 hx, .int .u32 x, .int .u32 o.h] 31)).cell? ⟨u6.heap.size, 1, none⟩ = some (.int .u32 x) := vcell_new rfl
      have E2 : (u6.alloc (.cells #[.int .u32 hx, .int .u32 x, .int .u32 o.h] 31)).cell? ⟨u6.heap.size, 2, none⟩ = some (.int .u32 o.h) := vcell_new rfl
      go_wp2
      go_loopw [95] (fun v95 wr3 => ∃ j : Nat, j ≤ 3 ∧ v95 = .int .i64 j ∧ DS w w.heap.size rb A cc n wr3 P2 ∧ wr3.cell? ⟨u6.heap.size, 0, none⟩ = some (.int .u32 hx) ∧ wr3.cell? ⟨u6.heap.size, 1, none⟩ = some (.int .u32 x) ∧ wr3.cell? ⟨u6.heap.size, 2, none⟩ = some (.int .u32 o.h)) (fun v95 _ => 4 - (intOf v95).toNat)
      case atStart => exact ⟨0, Nat.zero_le _, rfl, S8, E0, E1, E2⟩
      case round =>
        clear E0 E1 E2 S8 D3
        obtain ⟨j, hj, rfl, S4, E0, E1, E2⟩ := hrel
        rcases (show j = 0 ∨ j = 1 ∨ j = 2 ∨ j = 3 by omega) with rfl | rfl | rfl | rfl
        · obtain ⟨fc, fr, fb, hF⟩ : ∃ fc fr fb, findF P2 n (hx) = (fc, fr, fb) := ⟨_, _, _, rfl⟩
          obtain ⟨gc, gr, gb, hG⟩ : ∃ gc gr gb, withF P2 n (hx) y = (gc, gr, gb) := ⟨_, _, _, rfl⟩
          go_wp2_with fail
          refine (find13' _ w.heap.size P2 n hn S4.ok S4.tab (hx) h0 h1).mono ?_
          rw [hF]
          rintro e u5 ⟨rfl, _, hb5⟩
          have S5 := (S4.below hb5).alloc (.cells #[.int .i64 fc, .int .u8 fr] 30)
          have E0 := vcell hb5 E0
          have E1 := vcell hb5 E1
          have E2 := vcell hb5 E2
          have hz5 := S4.tab.lt
          go_wp2_with fail
          refine (rfind24 _ rb A cc n P2 hn S5.ok S5.rt (hx)).mono ?_
          rw [hF]
          rintro e u6 ⟨rfl, hb6⟩
          have S6 := (S5.below hb6).alloc (.cells #[.int .i64 fc, .int .u8 fr] 30)
          have E0 := vcell hb6 (vcell_alloc E0 _)
          have E1 := vcell hb6 (vcell_alloc E1 _)
          have E2 := vcell hb6 (vcell_alloc E2 _)
          have K0 : u6.cell? ⟨u5.heap.size, 0, none⟩ = some (.int .i64 fc) := vcell hb6 (vcell_new rfl)
          have K1 : u6.cell? ⟨u5.heap.size, 1, none⟩ = some (.int .u8 fr) := vcell hb6 (vcell_new rfl)
          have hz6 : u5.heap.size < u6.heap.size := (by have h_ := hb6.size; (try simp only [World.size_alloc] at h_); omega)
          go_wp2_with fail
          refine (with25 _ w.heap.size P2 n hn S6.ok S6.tab (hx) h0 h1 y).mono ?_
          rw [hG]
          rintro e u7 ⟨rfl, hb7⟩
          have S7 := (S6.below hb7).alloc (.cells #[.int .i64 gc, .int .u8 gr] 30)
          have E0 := vcell hb7 (vcell_alloc E0 _)
          have E1 := vcell hb7 (vcell_alloc E1 _)
          have E2 := vcell hb7 (vcell_alloc E2 _)
          have K0 := vcell hb7 (vcell_alloc K0 _)
          have K1 := vcell hb7 (vcell_alloc K1 _)
          have L0 : u7.cell? ⟨u6.heap.size, 0, none⟩ = some (.int .i64 fc) := vcell hb7 (vcell_new rfl)
          have L1 : u7.cell? ⟨u6.heap.size, 1, none⟩ = some (.int .u8 fr) := vcell hb7 (vcell_new rfl)
          have hz7 : u6.heap.size < u7.heap.size := (by have h_ := hb7.size; (try simp only [World.size_alloc] at h_); omega)
          go_wp2_with fail
          refine (rwith26 _ rb A cc n P2 hn S7.ok S7.rt (hx) y y0 y1).mono ?_
          rw [hG]
          rintro e u8 ⟨rfl, hb8⟩
          have S8 := (S7.below hb8).alloc (.cells #[.int .i64 gc, .int .u8 gr] 30)
          have E0 := vcell hb8 (vcell_alloc E0 _)
          have E1 := vcell hb8 (vcell_alloc E1 _)
          have E2 := vcell hb8 (vcell_alloc E2 _)
          have K0 := vcell hb8 (vcell_alloc K0 _)
          have K1 := vcell hb8 (vcell_alloc K1 _)
          have L0 := vcell hb8 (vcell_alloc L0 _)
          have L1 := vcell hb8 (vcell_alloc L1 _)
          have M0 : u8.cell? ⟨u7.heap.size, 0, none⟩ = some (.int .i64 gc) := vcell hb8 (vcell_new rfl)
          have M1 : u8.cell? ⟨u7.heap.size, 1, none⟩ = some (.int .u8 gr) := vcell hb8 (vcell_new rfl)
          have hz8 : u7.heap.size < u8.heap.size := (by have h_ := hb8.size; (try simp only [World.size_alloc] at h_); omega)
          have hz58 : u5.heap.size < u8.heap.size := by omega
          have hz68 : u6.heap.size < u8.heap.size := by omega
          have E0n := vcell_alloc E0 (.cells #[.int .i64 gc, .int .u8 gr] 30)
          have E1n := vcell_alloc E1 (.cells #[.int .i64 gc, .int .u8 gr] 30)
          have E2n := vcell_alloc E2 (.cells #[.int .i64 gc, .int .u8 gr] 30)
          clear S5 S6 S7 hb5 hb6 hb7 hb8
          go_wp2
          go_roundw
          case rel => exact ⟨1, by omega, by go_num, S8, E0n, E1n, E2n⟩
          case measure => simp [intOf]
        · obtain ⟨fc, fr, fb, hF⟩ : ∃ fc fr fb, findF P2 n (x) = (fc, fr, fb) := ⟨_, _, _, rfl⟩
          obtain ⟨gc, gr, gb, hG⟩ : ∃ gc gr gb, withF P2 n (x) y = (gc, gr, gb) := ⟨_, _, _, rfl⟩
          go_wp2_with fail
          refine (find13' _ w.heap.size P2 n hn S4.ok S4.tab (x) x0 x1).mono ?_
          rw [hF]
          rintro e u5 ⟨rfl, _, hb5⟩
          have S5 := (S4.below hb5).alloc (.cells #[.int .i64 fc, .int .u8 fr] 30)
          have E0 := vcell hb5 E0
          have E1 := vcell hb5 E1
          have E2 := vcell hb5 E2
          have hz5 := S4.tab.lt
          go_wp2_with fail
          refine (rfind24 _ rb A cc n P2 hn S5.ok S5.rt (x)).mono ?_
          rw [hF]
          rintro e u6 ⟨rfl, hb6⟩
          have S6 := (S5.below hb6).alloc (.cells #[.int .i64 fc, .int .u8 fr] 30)
          have E0 := vcell hb6 (vcell_alloc E0 _)
          have E1 := vcell hb6 (vcell_alloc E1 _)
          have E2 := vcell hb6 (vcell_alloc E2 _)
          have K0 : u6.cell? ⟨u5.heap.size, 0, none⟩ = some (.int .i64 fc) := vcell hb6 (vcell_new rfl)
          have K1 : u6.cell? ⟨u5.heap.size, 1, none⟩ = some (.int .u8 fr) := vcell hb6 (vcell_new rfl)
          have hz6 : u5.heap.size < u6.heap.size := (by have h_ := hb6.size; (try simp only [World.size_alloc] at h_); omega)
          go_wp2_with fail
          refine (with25 _ w.heap.size P2 n hn S6.ok S6.tab (x) x0 x1 y).mono ?_
          rw [hG]
          rintro e u7 ⟨rfl, hb7⟩
          have S7 := (S6.below hb7).alloc (.cells #[.int .i64 gc, .int .u8 gr] 30)
          have E0 := vcell hb7 (vcell_alloc E0 _)
          have E1 := vcell hb7 (vcell_alloc E1 _)
          have E2 := vcell hb7 (vcell_alloc E2 _)
          have K0 := vcell hb7 (vcell_alloc K0 _)
          have K1 := vcell hb7 (vcell_alloc K1 _)
          have L0 : u7.cell? ⟨u6.heap.size, 0, none⟩ = some (.int .i64 fc) := vcell hb7 (vcell_new rfl)
          have L1 : u7.cell? ⟨u6.heap.size, 1, none⟩ = some (.int .u8 fr) := vcell hb7 (vcell_new rfl)
          have hz7 : u6.heap.size < u7.heap.size := (by have h_ := hb7.size; (try simp only [World.size_alloc] at h_); omega)
          go_wp2_with fail
          refine (rwith26 _ rb A cc n P2 hn S7.ok S7.rt (x) y y0 y1).mono ?_
          rw [hG]
          rintro e u8 ⟨rfl, hb8⟩
          have S8 := (S7.below hb8).alloc (.cells #[.int .i64 gc, .int .u8 gr] 30)
          have E0 := vcell hb8 (vcell_alloc E0 _)
          have E1 := vcell hb8 (vcell_alloc E1 _)
          have E2 := vcell hb8 (vcell_alloc E2 _)
          have K0 := vcell hb8 (vcell_alloc K0 _)
          have K1 := vcell hb8 (vcell_alloc K1 _)
          have L0 := vcell hb8 (vcell_alloc L0 _)
          have L1 := vcell hb8 (vcell_alloc L1 _)
          have M0 : u8.cell? ⟨u7.heap.size, 0, none⟩ = some (.int .i64 gc) := vcell hb8 (vcell_new rfl)
          have M1 : u8.cell? ⟨u7.heap.size, 1, none⟩ = some (.int .u8 gr) := vcell hb8 (vcell_new rfl)
          have hz8 : u7.heap.size < u8.heap.size := (by have h_ := hb8.size; (try simp only [World.size_alloc] at h_); omega)
          have hz58 : u5.heap.size < u8.heap.size := by omega
          have hz68 : u6.heap.size < u8.heap.size := by omega
          have E0n := vcell_alloc E0 (.cells #[.int .i64 gc, .int .u8 gr] 30)
          have E1n := vcell_alloc E1 (.cells #[.int .i64 gc, .int .u8 gr] 30)
          have E2n := vcell_alloc E2 (.cells #[.int .i64 gc, .int .u8 gr] 30)
          clear S5 S6 S7 hb5 hb6 hb7 hb8
          go_wp2
          go_roundw
          case rel => exact ⟨2, by omega, by go_num, S8, E0n, E1n, E2n⟩
          case measure => simp [intOf]
        · obtain ⟨fc, fr, fb, hF⟩ : ∃ fc fr fb, findF P2 n (o.h) = (fc, fr, fb) := ⟨_, _, _, rfl⟩
          obtain ⟨gc, gr, gb, hG⟩ : ∃ gc gr gb, withF P2 n (o.h) y = (gc, gr, gb) := ⟨_, _, _, rfl⟩
          go_wp2_with fail
          refine (find13' _ w.heap.size P2 n hn S4.ok S4.tab (o.h) f2 f3).mono ?_
          rw [hF]
          rintro e u5 ⟨rfl, _, hb5⟩
          have S5 := (S4.below hb5).alloc (.cells #[.int .i64 fc, .int .u8 fr] 30)
          have E0 := vcell hb5 E0
          have E1 := vcell hb5 E1
          have E2 := vcell hb5 E2
          have hz5 := S4.tab.lt
          go_wp2_with fail
          refine (rfind24 _ rb A cc n P2 hn S5.ok S5.rt (o.h)).mono ?_
          rw [hF]
          rintro e u6 ⟨rfl, hb6⟩
          have S6 := (S5.below hb6).alloc (.cells #[.int .i64 fc, .int .u8 fr] 30)
          have E0 := vcell hb6 (vcell_alloc E0 _)
          have E1 := vcell hb6 (vcell_alloc E1 _)
          have E2 := vcell hb6 (vcell_alloc E2 _)
          have K0 : u6.cell? ⟨u5.heap.size, 0, none⟩ = some (.int .i64 fc) := vcell hb6 (vcell_new rfl)
          have K1 : u6.cell? ⟨u5.heap.size, 1, none⟩ = some (.int .u8 fr) := vcell hb6 (vcell_new rfl)
          have hz6 : u5.heap.size < u6.heap.size := (by have h_ := hb6.size; (try simp only [World.size_alloc] at h_); omega)
          go_wp2_with fail
          refine (with25 _ w.heap.size P2 n hn S6.ok S6.tab (o.h) f2 f3 y).mono ?_
          rw [hG]
          rintro e u7 ⟨rfl, hb7⟩
          have S7 := (S6.below hb7).alloc (.cells #[.int .i64 gc, .int .u8 gr] 30)
          have E0 := vcell hb7 (vcell_alloc E0 _)
          have E1 := vcell hb7 (vcell_alloc E1 _)
          have E2 := vcell hb7 (vcell_alloc E2 _)
          have K0 := vcell hb7 (vcell_alloc K0 _)
          have K1 := vcell hb7 (vcell_alloc K1 _)
          have L0 : u7.cell? ⟨u6.heap.size, 0, none⟩ = some (.int .i64 fc) := vcell hb7 (vcell_new rfl)
          have L1 : u7.cell? ⟨u6.heap.size, 1, none⟩ = some (.int .u8 fr) := vcell hb7 (vcell_new rfl)
          have hz7 : u6.heap.size < u7.heap.size := (by have h_ := hb7.size; (try simp only [World.size_alloc] at h_); omega)
          go_wp2_with fail
          refine (rwith26 _ rb A cc n P2 hn S7.ok S7.rt (o.h) y y0 y1).mono ?_
          rw [hG]
          rintro e u8 ⟨rfl, hb8⟩
          have S8 := (S7.below hb8).alloc (.cells #[.int .i64 gc, .int .u8 gr] 30)
          have E0 := vcell hb8 (vcell_alloc E0 _)
          have E1 := vcell hb8 (vcell_alloc E1 _)
          have E2 := vcell hb8 (vcell_alloc E2 _)
          have K0 := vcell hb8 (vcell_alloc K0 _)
          have K1 := vcell hb8 (vcell_alloc K1 _)
          have L0 := vcell hb8 (vcell_alloc L0 _)
          have L1 := vcell hb8 (vcell_alloc L1 _)
          have M0 : u8.cell? ⟨u7.heap.size, 0, none⟩ = some (.int .i64 gc) := vcell hb8 (vcell_new rfl)
          have M1 : u8.cell? ⟨u7.heap.size, 1, none⟩ = some (.int .u8 gr) := vcell hb8 (vcell_new rfl)
          have hz8 : u7.heap.size < u8.heap.size := (by have h_ := hb8.size; (try simp only [World.size_alloc] at h_); omega)
          have hz58 : u5.heap.size < u8.heap.size := by omega
          have hz68 : u6.heap.size < u8.heap.size := by omega
          have E0n := vcell_alloc E0 (.cells #[.int .i64 gc, .int .u8 gr] 30)
          have E1n := vcell_alloc E1 (.cells #[.int .i64 gc, .int .u8 gr] 30)
          have E2n := vcell_alloc E2 (.cells #[.int .i64 gc, .int .u8 gr] 30)
          clear S5 S6 S7 hb5 hb6 hb7 hb8
          go_wp2
          go_roundw
          case rel => exact ⟨3, by omega, by go_num, S8, E0n, E1n, E2n⟩
          case measure => simp [intOf]
        · go_wp2
          go_roundw
          case rel => exact ⟨k + 1, P2, by omega, by go_num, S4⟩
          case measure => simp [intOf]; omega
    · by_cases hlo : k < ops.length
      · have hd1 : decide ((k : Int) < (ops.length : Int)) = true := decide_eq_true (by omega)
        have hd2 : decide ((k : Int) < 80) = false := decide_eq_false (by omega)
        go_wp2_with fail
        refine (alive10 _).mono ?_
        rintro e u2 ⟨rfl, hb2⟩
        go_wp2
        go_ret
        exact ⟨rfl, vbelow_step S.low hb2⟩
      · have hd1 : decide ((k : Int) < (ops.length : Int)) = false := decide_eq_false (by omega)
        go_wp2_with fail
        refine (alive10 _).mono ?_
        rintro e u2 ⟨rfl, hb2⟩
        go_wp2
        go_ret
        exact ⟨rfl, vbelow_step S.low hb2⟩
set_option maxHeartbeats 1000000 in
set_option maxRecDepth 100000 in
theorem runs6_lo (w : World) (n : Int) (A0 : Option Addr) (c0 : Nat) (ops : List Oq) (hx y : Int) (hn : n < 0) : Calls Try.prog 6 #[.int .i64 n, .slice A0 ops.length c0, .int .u32 hx, .int .u8 y] w fun e w' => e = .returned (.bool true) ∧ Below w.heap.size w w' := by
  go_enter Try.func6, Try.ntmps6
  go_wp2_with fail
  refine (new9_lo _ n hn).mono ?_
  rintro e w1 ⟨rfl, hb1⟩
  go_wp2_with fail
  refine (rnew18_lo _ n hn).mono ?_
  rintro e w2 ⟨rfl, hb2⟩
  go_wp2_with fail
  refine (alive10 _).mono ?_
  rintro e w3 ⟨rfl, hb3⟩
  go_wp2
  go_ret
  exact ⟨rfl, vbelow_step (vbelow_step hb1 hb2) hb3⟩
set_option maxHeartbeats 1000000 in
set_option maxRecDepth 100000 in
theorem runs6_hi (w : World) (n : Int) (A0 : Option Addr) (c0 : Nat) (ops : List Oq) (hx y : Int) (hn : 32 < n) : Calls Try.prog 6 #[.int .i64 n, .slice A0 ops.length c0, .int .u32 hx, .int .u8 y] w fun e w' => e = .returned (.bool true) ∧ Below w.heap.size w w' := by
  go_enter Try.func6, Try.ntmps6
  go_wp2_with fail
  refine (new9_hi _ n hn).mono ?_
  rintro e w1 ⟨rfl, hb1⟩
  go_wp2_with fail
  refine (rnew18_hi _ n hn).mono ?_
  rintro e w2 ⟨rfl, hb2⟩
  go_wp2_with fail
  refine (alive10 _).mono ?_
  rintro e w3 ⟨rfl, hb3⟩
  go_wp2
  go_ret
  exact ⟨rfl, vbelow_step (vbelow_step hb1 hb2) hb3⟩
theorem runs6' (w : World) (n : Int) (A0 : Option Addr) (c0 : Nat) (ops : List Oq) (hx y : Int) (hO : OpsAt w A0 ops) (hc : ops.length ≤ 9223372036854775807) (h0 : 0 ≤ hx) (h1 : hx < 4294967296) (y0 : 0 ≤ y) (y1 : y ≤ 255) : Calls Try.prog 6 #[.int .i64 n, .slice A0 ops.length c0, .int .u32 hx, .int .u8 y] w fun e w' => e = .returned (.bool true) ∧ Below w.heap.size w w' := by
  by_cases g0 : n < 0
  · exact runs6_lo w n A0 c0 ops hx y g0
  · by_cases g1 : 32 < n
    · exact runs6_hi w n A0 c0 ops hx y g1
    · obtain ⟨m, rfl⟩ := Int.eq_ofNat_of_zero_le (show 0 ≤ n by omega)
      exact runs6 w m (by omega) A0 c0 ops hO hc hx y h0 h1 y0 y1
end Go.Proofs.Ytcpaakhmcpeagaa.Q
