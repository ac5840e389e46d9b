/- Layer 11: the reference's table: Drop, Mint, Live. -/
import Derived.Test.YtcpaakhmcpeagaaD3
namespace Go.Proofs.Ytcpaakhmcpeagaa.Q
open Go.RowKit Go.Proofs.YtcpaakhmcpeagaaW.PrintWords Go.Proofs.YtcpaakhmcpeagaaW.PrintMore
set_option linter.unusedVariables false
set_option linter.unusedSimpArgs false
theorem RT.sets {W W' : World} {rb vb cc n : Nat} {P P' : Nat → Pl} (h : RT W rb (some ⟨vb, 0, none⟩) cc n P) (hn : 0 < n) (ho : OnlyR (some ⟨vb, 0, none⟩) W W') (hr : RowAt W' vb P' n) : RT W' rb (some ⟨vb, 0, none⟩) cc n P' :=
  ⟨(ho.block rb h.lt (h.row_ne hn)).trans h.1, h.2.1, fun _ => ⟨vb, rfl, hr⟩⟩
theorem RowAt.set4 {W : World} {vb n : Nat} {P : Nat → Pl} (h : RowAt W vb P n) (i : Nat) (hi : i < n) (g : Int) (t : Bool) (c r : Int) :
    RowAt ((((W.setCell ⟨vb, i * 4, none⟩ (.bool t)).setCell ⟨vb, i * 4 + 1, none⟩ (.int .i64 g)).setCell ⟨vb, i * 4 + 2, none⟩ (.int .i64 c)).setCell ⟨vb, i * 4 + 3, none⟩ (.int .u8 r)) vb (upd P i ⟨g, t, c, r⟩) n := by
  have h0 := h.set i 0 (.bool t) ⟨(P i).g, t, (P i).c, (P i).r⟩ hi (by omega) rfl
  have h1 := h0.set i 1 (.int .i64 g) ⟨g, t, (P i).c, (P i).r⟩ hi (by omega) (by rw [upd_same]; rfl)
  have h2 := h1.set i 2 (.int .i64 c) ⟨g, t, c, (P i).r⟩ hi (by omega) (by rw [upd_same]; rfl)
  have h3 := h2.set i 3 (.int .u8 r) ⟨g, t, c, r⟩ hi (by omega) (by rw [upd_same]; rfl)
  rw [upd_upd, upd_upd, upd_upd] at h3
  exact h3
theorem RowAt.set3 {W : World} {vb n : Nat} {P : Nat → Pl} (h : RowAt W vb P n) (i : Nat) (hi : i < n) (t : Bool) (c r : Int) :
    RowAt (((W.setCell ⟨vb, i * 4, none⟩ (.bool t)).setCell ⟨vb, i * 4 + 2, none⟩ (.int .i64 c)).setCell ⟨vb, i * 4 + 2 + 1, none⟩ (.int .u8 r)) vb (upd P i ⟨(P i).g, t, c, r⟩) n := by
  have h1 := h.set i 0 (.bool t) ⟨(P i).g, t, (P i).c, (P i).r⟩ hi (by omega) rfl
  have h2 := h1.set i 2 (.int .i64 c) ⟨(P i).g, t, c, (P i).r⟩ hi (by omega) (by rw [upd_same]; rfl)
  have h3 := h2.set i 3 (.int .u8 r) ⟨(P i).g, t, c, r⟩ hi (by omega) (by rw [upd_same]; rfl)
  rw [upd_upd, upd_upd] at h3
  exact h3
set_option maxHeartbeats 1000000 in
set_option maxRecDepth 100000 in
theorem rdrop_a (w : World) (rb : Nat) (A : Option Addr) (cc n : Nat) (P : Nat → Pl) (hn : n ≤ 32) (ok : Ok P) (h : RT w rb A cc n P) (x : Int) (i : Nat) (hin : i < n) (hi : atF P n x = i) : Calls Try.prog 33 #[.pointer (some ⟨rb, 0, none⟩), .int .u32 x] w fun e w' => e = .returned (.int .i64 0) ∧ RT w' rb A cc n (upd P i ⟨(P i).g + 1, false, 0, 0⟩) ∧ OnlyR A w w' := by
  go_enter Try.func33, Try.ntmps33
  go_wp2_with fail
  refine (rplace35 _ rb A cc n P hn ok h x).mono ?_
  rw [hi]
  rintro e w1 ⟨rfl, hb1⟩
  have T1 := h.below hb1
  obtain ⟨vb, rfl, hrow, Q0, Q1, Q2, Q3⟩ := T1.get i hin
  have C0 := T1.cell0
  have hi0 : (0 : Int) ≤ (i : Int) := by omega
  have hi1 : (i : Int) < (n : Int) := by omega
  have F0 := hrow.frozen (i * 4)
  have F1 := hrow.frozen (i * 4 + 1)
  have F2 := hrow.frozen (i * 4 + 2)
  have F3 := hrow.frozen (i * 4 + 3)
  have hw : wrap64 ((P i).g + 1) = (P i).g + 1 := w64 (by have := ok.g0 i; omega) (by have := ok.g1 i; omega)
  go_wp2
  go_region
  obtain ⟨W3, hW3⟩ : ∃ W3, W3 = ((((w1.setCell ⟨vb, i * 4, none⟩ (.bool false)).setCell ⟨vb, i * 4 + 1, none⟩ (.int .i64 ((P i).g + 1))).setCell ⟨vb, i * 4 + 2, none⟩ (.int .i64 0)).setCell ⟨vb, i * 4 + 3, none⟩ (.int .u8 0)).drew := ⟨_, rfl⟩
  rw [← hW3]
  have O3 : OnlyR (some ⟨vb, 0, none⟩) w1 W3 := by rw [hW3]; exact (((((OnlyR.of (Below.refl _ w1)).set _ _).set _ _).set _ _).set _ _).drew
  have R3 : RowAt W3 vb (upd P i ⟨(P i).g + 1, false, 0, 0⟩) n := by rw [hW3]; exact hrow.set4 i hin _ _ _ _
  have T3 := T1.sets (by omega) O3 R3
  go_wp2
  go_ret
  exact ⟨rfl, T3, (OnlyR.of hb1).trans O3⟩
set_option maxHeartbeats 1000000 in
set_option maxRecDepth 100000 in
theorem rdrop_b (w : World) (rb : Nat) (A : Option Addr) (cc n : Nat) (P : Nat → Pl) (hn : n ≤ 32) (ok : Ok P) (h : RT w rb A cc n P) (x : Int) (hi : atF P n x = -1) : Calls Try.prog 33 #[.pointer (some ⟨rb, 0, none⟩), .int .u32 x] w fun e w' => e = .returned (.int .i64 111) ∧ Below w.heap.size w w' := by
  go_enter Try.func33, Try.ntmps33
  go_wp2_with fail
  refine (rplace35 _ rb A cc n P hn ok h x).mono ?_
  rw [hi]
  rintro e w1 ⟨rfl, hb1⟩
  go_wp2
  go_ret
  exact ⟨rfl, hb1⟩
theorem rdrop33 (w : World) (rb : Nat) (A : Option Addr) (cc n : Nat) (P : Nat → Pl) (hn : n ≤ 32) (ok : Ok P) (h : RT w rb A cc n P) (x : Int) : Calls Try.prog 33 #[.pointer (some ⟨rb, 0, none⟩), .int .u32 x] w fun e w' => e = .returned (.int .i64 (dropF P n x).1) ∧ RT w' rb A cc n (dropF P n x).2 ∧ OnlyR A w w' := by
  unfold dropF
  by_cases ha : atF P n x < 0
  · rw [if_pos ha]
    have := atF_ge P n x
    exact (rdrop_b w rb A cc n P hn ok h x (by omega)).mono fun _ _ k => ⟨k.1, h.below k.2, OnlyR.of k.2⟩
  · rw [if_neg ha]
    have := atF_lt P n x
    exact rdrop_a w rb A cc n P hn ok h x _ (by omega) (by omega)
set_option maxHeartbeats 1000000 in
set_option maxRecDepth 100000 in
theorem rmint_z (w : World) (rb : Nat) (A : Option Addr) (cc n : Nat) (P : Nat → Pl) (hn : n ≤ 32) (ok : Ok P) (h : RT w rb A cc n P) (c r : Int) (hr : r = 0) : Calls Try.prog 32 #[.pointer (some ⟨rb, 0, none⟩), .agg #[.int .i64 c, .int .u8 r]] w fun e w' => e = .returned (.tuple #[.int .u32 0, .int .i64 1]) ∧ Below w.heap.size w w' := by
  subst hr
  go_enter Try.func32, Try.ntmps32
  go_wp2
  go_ret2
  exact ⟨rfl, (by repeat (first | (with_reducible exact Below.refl _ _) | (with_reducible refine vbelow_alloc ?_ _) | (with_reducible refine vbelow_drew ?_) | (with_reducible refine vbelow_drewN ?_ _) | (with_reducible refine vbelow_set ?_ (by first | exact Nat.le_refl _ | (dsimp only; omega) | omega))))⟩
set_option maxHeartbeats 1000000 in
set_option maxRecDepth 100000 in
theorem rmint_f (w : World) (rb : Nat) (A : Option Addr) (cc n : Nat) (P : Nat → Pl) (hn : n ≤ 32) (ok : Ok P) (h : RT w rb A cc n P) (c r : Int) (hr : r ≠ 0) (hf : ∀ k, k < n → opn (P k) = false) : Calls Try.prog 32 #[.pointer (some ⟨rb, 0, none⟩), .agg #[.int .i64 c, .int .u8 r]] w fun e w' => e = .returned (.tuple #[.int .u32 0, .int .i64 110]) ∧ Below w.heap.size w w' := by
  have T0 := h.alloc (.cells #[.int .i64 c, .int .u8 r] 30)
  have hrd : decide (r = 0) = false := decide_eq_false hr
  have hrb : (r == 0) = false := beq_eq_false_iff_ne.2 hr
  go_enter Try.func32, Try.ntmps32
  go_wp2_with fail
  refine (rfree_b _ rb A cc n P hn ok T0 hf).mono ?_
  rintro e w2 ⟨rfl, hb2⟩
  have HB2 : Below w.heap.size w w2 := vbelow_step (vbelow_alloc (Below.refl _ _) _) hb2
  have T2 := h.below HB2
  have L0 : w2.cell? ⟨w.heap.size, 0, none⟩ = some (.int .i64 c) := vcell hb2 (vcell_new rfl)
  have L1 : w2.cell? ⟨w.heap.size, 1, none⟩ = some (.int .u8 r) := vcell hb2 (vcell_new rfl)
  have hz2 : w.heap.size < w2.heap.size := (by have h_ := hb2.size; (try simp only [World.size_alloc] at h_); omega)
  go_wp2
  go_ret2
  exact ⟨rfl, HB2⟩
set_option maxHeartbeats 1000000 in
set_option maxRecDepth 100000 in
theorem rmint_a (w : World) (rb : Nat) (A : Option Addr) (cc n : Nat) (P : Nat → Pl) (hn : n ≤ 32) (ok : Ok P) (h : RT w rb A cc n P) (c r : Int) (hr : r ≠ 0) (hr0 : 0 ≤ r) (hr1 : r ≤ 255) (i : Nat) (hin : i < n) (hf : ∀ k, k < i → opn (P k) = false) (ht : opn (P i) = true) : Calls Try.prog 32 #[.pointer (some ⟨rb, 0, none⟩), .agg #[.int .i64 c, .int .u8 r]] w fun e w' => e = .returned (.tuple #[.int .u32 (handleR i r (P i).g).1, .int .i64 0]) ∧ RT w' rb A cc n (upd P i ⟨(P i).g, true, c, r⟩) ∧ OnlyR A w w' := by
  have T0 := h.alloc (.cells #[.int .i64 c, .int .u8 r] 30)
  have hrd : decide (r = 0) = false := decide_eq_false hr
  have hrb : (r == 0) = false := beq_eq_false_iff_ne.2 hr
  go_enter Try.func32, Try.ntmps32
  go_wp2_with fail
  refine (rfree_a _ rb A cc n P hn ok T0 i hin hf ht).mono ?_
  rintro e w2 ⟨rfl, hb2⟩
  have HB2 : Below w.heap.size w w2 := vbelow_step (vbelow_alloc (Below.refl _ _) _) hb2
  have T2 := h.below HB2
  have L0 : w2.cell? ⟨w.heap.size, 0, none⟩ = some (.int .i64 c) := vcell hb2 (vcell_new rfl)
  have L1 : w2.cell? ⟨w.heap.size, 1, none⟩ = some (.int .u8 r) := vcell hb2 (vcell_new rfl)
  have hz2 : w.heap.size < w2.heap.size := (by have h_ := hb2.size; (try simp only [World.size_alloc] at h_); omega)
  obtain ⟨vb, rfl, hrow, Q0, Q1, Q2, Q3⟩ := T2.get i hin
  have C0 := T2.cell0
  have hi0 : (0 : Int) ≤ (i : Int) := by omega
  have hi1 : (i : Int) < (n : Int) := by omega
  have F0 := hrow.frozen (i * 4)
  have F1 := hrow.frozen (i * 4 + 1)
  have F2 := hrow.frozen (i * 4 + 2)
  have F3 := hrow.frozen (i * 4 + 3)
  have hvb : vb < w.heap.size := by obtain ⟨vb', e, hr⟩ := h.2.2 (by omega); injection e with e; injection e with e; rw [e]; exact hr.lt
  have hne : vb ≠ w.heap.size := Nat.ne_of_lt hvb
  have hne2 : w.heap.size ≠ vb := Nat.ne_of_gt hvb
  go_wp2
  go_region
  obtain ⟨W3, hW3⟩ : ∃ W3, W3 = (((w2.setCell ⟨vb, i * 4, none⟩ (.bool true)).setCell ⟨vb, i * 4 + 2, none⟩ (.int .i64 c)).setCell ⟨vb, i * 4 + 2 + 1, none⟩ (.int .u8 r)).drew := ⟨_, rfl⟩
  rw [← hW3]
  have O3 : OnlyR (some ⟨vb, 0, none⟩) w2 W3 := by rw [hW3]; exact ((((OnlyR.of (Below.refl _ w2)).set _ _).set _ _).set _ _).drew
  have R3 : RowAt W3 vb (upd P i ⟨(P i).g, true, c, r⟩) n := by rw [hW3]; exact hrow.set3 i hin true c r
  have T3 := T2.sets (by omega) O3 R3
  clear hW3 Q0 Q1 Q2 Q3 F0 F1 F2 F3 L0 L1 hrow R3
  have ok3 : Ok (upd P i ⟨(P i).g, true, c, r⟩) := ok.put i _ hr0 hr1 (ok.g0 i) (ok.g1 i) (fun _ => (opn_of ht).2)
  go_wp2_with fail
  refine (rhandle34 _ rb _ cc n _ hn ok3 T3 i hin).mono ?_
  have hhd : hd (upd P i ⟨(P i).g, true, c, r⟩) i = (handleR i r (P i).g).1 := by unfold hd; rw [upd_same]
  rw [hhd]
  rintro e w4 ⟨rfl, hb4⟩
  go_wp2
  go_ret2
  exact ⟨rfl, T3.below hb4, ((OnlyR.of HB2).trans O3).next hb4⟩
theorem rmint32 (w : World) (rb : Nat) (A : Option Addr) (cc n : Nat) (P : Nat → Pl) (hn : n ≤ 32) (ok : Ok P) (h : RT w rb A cc n P) (c r : Int) (r0 : 0 ≤ r) (r1 : r ≤ 255) : Calls Try.prog 32 #[.pointer (some ⟨rb, 0, none⟩), .agg #[.int .i64 c, .int .u8 r]] w fun e w' => e = .returned (.tuple #[.int .u32 (mintF P n c r).1, .int .i64 (mintF P n c r).2.1]) ∧ RT w' rb A cc n (mintF P n c r).2.2 ∧ OnlyR A w w' := by
  unfold mintF
  by_cases hr : r = 0
  · rw [if_pos hr]
    exact (rmint_z w rb A cc n P hn ok h c r hr).mono fun _ _ k => ⟨k.1, h.below k.2, OnlyR.of k.2⟩
  · rw [if_neg hr]
    cases hf : freeF P n with
    | none => exact (rmint_f w rb A cc n P hn ok h c r hr (freeF_none hf)).mono fun _ _ k => ⟨k.1, h.below k.2, OnlyR.of k.2⟩
    | some i => exact rmint_a w rb A cc n P hn ok h c r hr r0 r1 i (freeF_some hf).1 (freeF_some hf).2.2 (freeF_some hf).2.1
set_option maxHeartbeats 1000000 in
set_option maxRecDepth 100000 in
theorem rlive23 (w : World) (rb : Nat) (A : Option Addr) (cc n : Nat) (P : Nat → Pl) (hn : n ≤ 32) (ok : Ok P) (h : RT w rb A cc n P) : Calls Try.prog 23 #[.pointer (some ⟨rb, 0, none⟩)] w fun e w' => ∃ v, e = .returned v ∧ Kd.R (Kd.int .u32) 31 w' w.heap.size (fun _ => True) v (liveF P n) ∧ Below w.heap.size w w' := by
  go_enter Try.func23, Try.ntmps23
  go_wp2
  go_loopw [3, 4] (fun v3 v4 wr => ∃ k : Nat, k ≤ n ∧ v4 = .int .i64 k ∧ Kd.R (Kd.int .u32) 31 wr w.heap.size (fun _ => True) v3 (liveF P k) ∧ Below w.heap.size w wr) (fun _ v4 _ => n + 1 - (intOf v4).toNat)
  case atStart => exact ⟨0, Nat.zero_le _, rfl, Kd.R_nil _ _ _ _ _, (by repeat (first | (with_reducible exact Below.refl _ _) | (with_reducible refine vbelow_alloc ?_ _) | (with_reducible refine vbelow_drew ?_) | (with_reducible refine vbelow_drewN ?_ _) | (with_reducible refine vbelow_set ?_ (by first | exact Nat.le_refl _ | (dsimp only; omega) | omega))))⟩
  case round =>
    obtain ⟨k, hk, rfl, HO, HB1⟩ := hrel
    by_cases hki : k < n
    · cases ht : (P k).t with
      | true =>
        have hs := liveF_yes P k ht
        have hl := liveF_le P k
        have T1 := h.below HB1
        obtain ⟨vb, rfl, hrow, Q0, Q1, Q2, Q3⟩ := T1.get k hki
        have C0 := T1.cell0
        have hk0 : (0 : Int) ≤ (k : Int) := by omega
        have hkn : (k : Int) < n := by omega
        have hlt1 : decide ((k : Int) < n) = true := decide_eq_true hkn
        clear hrow
        rw [ht] at Q0
        obtain ⟨Ao, co, eo⟩ := Kd.R_slice HO
        subst eo
        go_wp2_with fail
        refine (rhandle34 _ rb _ cc n P hn ok T1 k hki).mono ?_
        rintro e w2 ⟨rfl, hb2⟩
        have HB2 : Below w.heap.size w w2 := vbelow_step HB1 hb2
        have HO2 : Kd.R (Kd.int .u32) 31 w2 w.heap.size (fun _ => True) (.slice Ao (liveF P k).length co) (liveF P k) := Kd.R_below HO hb2
        have hls : (liveF P k).length + 1 ≤ 64 := by omega
        clear HO HB1 Q0 Q1 Q2 Q3 T1
        go_wp2_with ((with_reducible refine gate_builtin (b := .append) (xs := #[.tmp 22, .tmp 26]) rfl ?_); at_builtin; refine Kd.R_append (Kd.int .u32) (w0 := w) w.heap.size rfl (.tmp 22) (.tmp 26) 28 31 (.int .u32 0) 4 rfl Try.underlying28 info31' rfl (by decide) (by omega) (.slice Ao (liveF P k).length co) (liveF P k) (hd P k) [.int .u32 (hd P k)] (fun _ => True) (fun _ => False) rfl rfl ?aP (fun _ hk => hk.elim) ?aF ?aO ?aB ?aS ?aL ?_; (case aP => exact rfl); (case aB => exact HB2); (case aF => exact (fun _ _ => trivial)); (case aO => exact HO2); (case aS => exact HB2.size); (case aL => omega); intro v4 w4 ho hb4 hg4 hat4)
        go_roundw
        case rel => exact ⟨k + 1, by omega, by go_num, by rw [hs]; exact ho, hb4⟩
        case measure => simp [intOf]; omega
      | false =>
        have hs := liveF_no P k ht
        have T1 := h.below HB1
        obtain ⟨vb, rfl, hrow, Q0, Q1, Q2, Q3⟩ := T1.get k hki
        have C0 := T1.cell0
        have hk0 : (0 : Int) ≤ (k : Int) := by omega
        have hkn : (k : Int) < n := by omega
        have hlt1 : decide ((k : Int) < n) = true := decide_eq_true hkn
        clear hrow
        rw [ht] at Q0
        obtain ⟨Ao, co, eo⟩ := Kd.R_slice HO
        subst eo
        go_wp2
        go_roundw
        case rel => exact ⟨k + 1, by omega, by go_num, by rw [hs]; exact HO, HB1⟩
        case measure => simp [intOf]; omega
    · obtain rfl : k = n := by omega
      have C0 := (h.below HB1).cell0
      obtain ⟨Ao, co, eo⟩ := Kd.R_slice HO
      subst eo
      go_wp2
      go_ret
      exact ⟨_, rfl, HO, HB1⟩
end Go.Proofs.Ytcpaakhmcpeagaa.Q
