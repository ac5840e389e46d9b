/- Layer 13: the walk of the law CreditRuns. -/
import Derived.Test.YtfjljlhlifnnlaaE9
namespace Go.Proofs.Ytfjljlhlifnnlaa.Q
open Go.RowKit Go.Proofs.YtfjljlhlifnnlaaW.PrintWords Go.Proofs.YtfjljlhlifnnlaaW.PrintMore
set_option linter.unusedVariables false
set_option linter.unusedSimpArgs false
set_option maxHeartbeats 1000000 in
set_option maxRecDepth 100000 in
theorem runs6 (a b c : Int) (A : Option Addr) (n m cap : Nat) (kf qf : Nat → Int) (nn : Bool) (h80 : m ≤ 80) (hor : (n ≤ 80 ∧ n = m) ∨ (80 < n ∧ m = 80 ∧ n ≤ cap)) (w : World) (hA : SliceOps w A m kf qf) : Calls Try.prog 6 #[.agg #[.int .i64 a, .int .i64 b, .int .i64 c], .slice A n cap, .bool nn] w fun e w' => e = .returned (.bool true) ∧ Below w.heap.size w w' := by
  go_enter Try.func6, Try.ntmps6
  go_upto_if 19 with fail
  have HB1 : Below w.heap.size w (w.alloc (.cells #[.int .i64 a, .int .i64 b, .int .i64 c] 23)) := vbelow_alloc (Below.refl _ _) _
  have g0 : (w.alloc (.cells #[.int .i64 a, .int .i64 b, .int .i64 c] 23)).cell? ⟨w.heap.size, 0, none⟩ = some (.int .i64 a) := by simp [go_sem]
  have g1 : (w.alloc (.cells #[.int .i64 a, .int .i64 b, .int .i64 c] 23)).cell? ⟨w.heap.size, 1, none⟩ = some (.int .i64 b) := by simp [go_sem]
  have g2 : (w.alloc (.cells #[.int .i64 a, .int .i64 b, .int .i64 c] 23)).cell? ⟨w.heap.size, 2, none⟩ = some (.int .i64 c) := by simp [go_sem]
  obtain ⟨W1, hW1⟩ : ∃ W1, W1 = w.alloc (.cells #[.int .i64 a, .int .i64 b, .int .i64 c] 23) := ⟨_, rfl⟩
  rw [← hW1] at HB1 g0 g1 g2 ⊢
  clear hW1
  go_cut [1] (fun s1 wx => s1 = .slice A m cap ∧ wx = W1)
  case first =>
    clear HB1 g0 g1 g2 hA
    rcases hor with ⟨h8, rfl⟩ | ⟨hn, hm, hc⟩
    · have ht : decide (((n : Nat) : Int) > 80) = false := by rw [decide_eq_false_iff_not]; omega
      go_wp2_with fail
      go_meet
      exact ⟨rfl, rfl⟩
    · have ht : decide (((n : Nat) : Int) > 80) = true := by rw [decide_eq_true_eq]; omega
      have hs : ∀ W : World, (Instr.slice 38 (.slice A n cap) none (some (.int .i64 80)) none).run Try.prog W = .ok (.slice A m cap) W := by
        obtain ⟨i41, hi⟩ := Option.isSome_iff_exists.mp (show (Try.prog.info? 41).isSome = true by kernel_rfl)
        have h_ := cut_to (P := Try.prog) 38 41 .i64 Try.underlying38 hi A n cap 80 (by omega) (by omega) hc
        rw [hm]
        exact h_
      clear hm
      go_wp2_with fail
      go_meet
      exact ⟨rfl, rfl⟩
  case rest =>
  obtain ⟨rfl, hwc⟩ := hcut
  obtain rfl : W1 = wc := hwc.symm
  clear hor
  go_wp2_with fail
  have hA1 : SliceOps W1 A m kf qf := fun h0 => by
    obtain ⟨ad, e, hc⟩ := hA h0
    exact ⟨ad, e, fun i hi => ⟨vcell HB1 (hc i hi).1, vcell HB1 (hc i hi).2⟩⟩
  have HA := Lib.hid hA1
  clear hA hA1
  go_loopw [7, 8] (fun v i wr => ∃ (k : Nat) (gs : List (Option Nat)), k ≤ m ∧ i = .int .i64 k ∧ gs.length = k ∧ kdF.R 29 wr W1.heap.size (okF gs) v gs ∧ Ops wr gs kf qf ∧ Below W1.heap.size W1 wr)
    (fun _ i _ => m - (intOf i).toNat)
  case atStart =>
    exact ⟨0, [], by omega, rfl, rfl, Kd.R_nil _ _ _ _ _, fun j hj => absurd hj (by simp), Below.refl _ _⟩
  case round =>
    obtain ⟨k, gs, hk, rfl, hkl, hR, hO, HBr⟩ := hrel
    subst hkl
    have HR := Lib.hid hR
    have HO := Lib.hid hO
    clear hR hO
    by_cases hlt : gs.length < m
    · obtain ⟨ad, rfl, hcell⟩ := HA.out (by omega)
      obtain ⟨c0, c1⟩ := hcell gs.length hlt
      clear hcell
      have c0' := vcell HBr c0
      have c1' := vcell HBr c1
      clear c0 c1
      have hk1 : decide (((gs.length : Nat) : Int) < ((m : Nat) : Int)) = true := decide_eq_true (by omega)
      have hk2 : decide (gs.length < m) = true := decide_eq_true hlt
      have l2 : ∀ m : Nat, m < m + 1 + 1 := fun m => by omega
      have hbl := World.block_lt_of_cell? _ _ c0'
      go_wp2_with (first | (go_at_call 21; refine (act21 (kf gs.length) (qf gs.length) _).mono ?_; rintro e W9 ⟨rfl, hW9⟩; have F1 := own_ok' HR.out hW9; have F2 := ok_fresh' HO.out hW9; have F3 := below_of' HBr hW9; have F4 := F3.size; have H9 := Lib.hid hW9; clear hW9) | ((with_reducible refine gate_builtin (b := .append) (xs := #[.tmp 28, .tmp 34]) rfl ?_); at_builtin; refine Kd.R_append kdF (w0 := W1) W1.heap.size rfl (.tmp 28) (.tmp 34) 44 29 .nilFunc 8 rfl Try.underlying44 infoF rfl (by decide) (by omega) u7 gs (some wr.heap.size) [encF (some wr.heap.size)] (okF (gs ++ [some wr.heap.size])) (fun _ => False) rfl rfl ?aP (fun _ hk => hk.elim) ?aF ?aO ?aB ?aS ?aL ?_; (case aP => exact rfl); (case aF => exact F2.out); (case aO => exact F1.out); (case aB => exact F3); (case aS => exact F4); (case aL => omega); intro v1 w9 ho hb hg hat))
      go_roundw
      case rel => exact ⟨gs.length + 1, gs ++ [some wr.heap.size], by omega, by go_num, by simp, ho, ops_next HO.out HR.out (H9.out ▸ hg), hb⟩
      case measure => simp [intOf]; omega
    · have hkm : gs.length = m := by omega
      subst hkm
      have hk1 : decide (((gs.length : Nat) : Int) < ((gs.length : Nat) : Int)) = false := by simp
      cases nn with
      | false =>
        obtain ⟨Av, cv, hu, hX⟩ := acts_at (L := gs) HO.out HR.out (fun i _ => rfl)
        subst hu
        have HX := Lib.hid hX
        obtain ⟨W2, hW2⟩ : ∃ W2, W2 = wr := ⟨_, rfl⟩
        subst hW2
        have HBW := HBr
        clear hX HO HR HBr hlt
        have BW : Below w.heap.size w W2 := vbelow_next HBW HB1
        have HA2 : RowKit.Hid (SliceOps W2 A gs.length kf qf) := fun h0 => by
          obtain ⟨ad, e, hc⟩ := HA.out h0
          exact ⟨ad, e, fun i hi => ⟨vcell HBW (hc i hi).1, vcell HBW (hc i hi).2⟩⟩
        have c0 := vcell HBW g0
        have c1 := vcell HBW g1
        have c2 := vcell HBW g2
        go_wp2_with fail
        clear HA
        go_loopw [10, 11, 12] (fun s10 s11 s12 wr => ∃ (k j : Nat) (x y z ev : Int), k ≤ gs.length ∧ s12 = .int .i64 k ∧ s10 = .int .i64 j ∧ s11 = .int .i64 ev ∧ st kf qf a b c j = (x, y, z) ∧ (∀ i, i < j → er kf qf a b c i = 0) ∧ ((ev = 0 ∧ j = k) ∨ (ev ≠ 0 ∧ k = j + 1 ∧ er kf qf a b c j = ev)) ∧ wr.cell? ⟨W2.heap.size, 0, none⟩ = some (.int .i64 x) ∧ wr.cell? ⟨W2.heap.size, 1, none⟩ = some (.int .i64 y) ∧ wr.cell? ⟨W2.heap.size, 2, none⟩ = some (.int .i64 z) ∧ (∀ o, wr.frozen? ⟨W2.heap.size, o, none⟩ = false) ∧ W2.heap.size < wr.heap.size ∧ Below W2.heap.size W2 wr)
          (fun _ _ s12 _ => gs.length - (intOf s12).toNat)
        case atStart =>
          refine ⟨0, 0, a, b, c, 0, by omega, rfl, rfl, rfl, rfl, fun i hi => absurd hi (by omega), .inl ⟨rfl, rfl⟩, by simp [go_sem], by simp [go_sem], by simp [go_sem], fun o => by simp [go_sem], by simp, ?_⟩
          exact vbelow_alloc (Below.refl _ _) _
        case round =>
          obtain ⟨k, j, x, y, z, ev, hk, rfl, rfl, rfl, hst, her, hev, e0, e1, e2, f0, hsz, HB2⟩ := hrel
          have HST := Lib.hid hst
          have HER := Lib.hid her
          clear hst her
          have b0 := vcell HB2 c0
          have b1 := vcell HB2 c1
          have b2 := vcell HB2 c2
          rcases hev with ⟨rfl, rfl⟩ | ⟨hne, rfl, hej⟩
          · by_cases hlt : j < gs.length
            · clear b0 b1 b2
              obtain ⟨ad, rfl, hcell⟩ := HA2.out (by omega)
              obtain ⟨p0, p1⟩ := hcell j hlt
              clear hcell
              have p0' := vcell HB2 p0
              have p1' := vcell HB2 p1
              clear p0 p1 c0 c1 c2 g0 g1 g2
              have hk1 : decide (((j : Nat) : Int) < ((gs.length : Nat) : Int)) = true := decide_eq_true (by omega)
              have hk2 : decide (j < gs.length) = true := decide_eq_true hlt
              have l2 : ∀ m : Nat, m < m + 1 + 1 := fun m => by omega
              have hbl := World.block_lt_of_cell? _ _ p0'
              obtain ⟨r1, r2, r3, r4, hR⟩ : ∃ v1 v2 v3 v4, actR (kf j) (qf j) x y z = (v1, v2, v3, v4) := ⟨_, _, _, _, rfl⟩
              obtain ⟨hst', her'⟩ := st_next HST.out hR
              have HR := Lib.hid hR
              have HT := Lib.hid hst'
              have HE := Lib.hid her'
              clear hR hst' her'
              go_upto_region 15 with fail
              go_cut [11] (fun s11 wx => s11 = .int .i64 r4 ∧ wx.cell? ⟨wr.heap.size, 0, none⟩ = some (.int .i64 r1) ∧ wx.cell? ⟨wr.heap.size, 1, none⟩ = some (.int .i64 r2) ∧ wx.cell? ⟨wr.heap.size, 2, none⟩ = some (.int .i64 r3) ∧ Below wr.heap.size wr wx ∧ wr.heap.size < wx.heap.size)
              case first =>
                go_region_held3 (fun W_ => W_.cell? (ad.add (j * 2)) = some (.int .i64 (kf j)) ∧ W_.cell? ⟨(ad.add (j * 2)).block, (ad.add (j * 2)).off + 1, none⟩ = some (.int .i64 (qf j)) ∧ W_.cell? ⟨W2.heap.size, 0, none⟩ = some (.int .i64 x) ∧ W_.cell? ⟨W2.heap.size, 1, none⟩ = some (.int .i64 y) ∧ W_.cell? ⟨W2.heap.size, 2, none⟩ = some (.int .i64 z) ∧ Below wr.heap.size wr W_) ((repeat' apply And.intro) <;> first | (with_reducible assumption) | ((repeat (first | (with_reducible assumption) | ((with_reducible refine vcell_new ?_); rfl) | ((with_reducible refine vcell_new' ?_ ?_); (focus (simp only [World.size_alloc, World.size_drew, World.size_setCell]; done)); rfl) | (with_reducible refine vcell_drew ?_) | ((with_reducible refine vcell_set ?_ ?_); focus (first | (dsimp only; omega) | omega)) | (with_reducible refine vcell_alloc ?_ _) | (with_reducible refine vcell (by assumption) ?_))); done) | ((repeat (first | (with_reducible assumption) | (with_reducible exact Below.refl _ _) | (with_reducible refine vbelow_alloc ?_ _) | (with_reducible refine vbelow_drew ?_) | ((with_reducible refine vbelow_set' ?_ ?_); focus (first | (dsimp only; omega) | omega)) | (with_reducible refine vbelow_next (by assumption) ?_))); done) | go_keep) (first | (go_at_call 22; with_reducible refine (plain22 (kf j) (qf j) x y z r1 r2 r3 r4 HR.out _).mono ?_; rintro e W9 ⟨rfl, hb9⟩; obtain ⟨hcN, hfN⟩ := vbcell hb9; have hzN := hb9.size; (try simp only [World.size_alloc, World.size_drew] at hzN); (try have hzN1 := Nat.lt_of_succ_le hzN)))
                all_goals go_wp2_with fail
                all_goals
                  go_meet
                  refine ⟨rfl, ?_, ?_, ?_, ?_, ?_⟩
                  all_goals first | (simp [go_sem, *]; done) | omega | ((try simp only [World.size_alloc, World.size_drew, World.size_setCell]); omega) | (repeat (first | (with_reducible assumption) | (with_reducible exact Below.refl _ _) | (with_reducible refine vbelow_alloc ?_ _) | (with_reducible refine vbelow_drew ?_) | ((with_reducible refine vbelow_set' ?_ ?_); focus (first | (dsimp only; omega) | omega)) | (with_reducible refine vbelow_next (by assumption) ?_)))
              case rest =>
                obtain ⟨rfl, d0, d1, d2, hbx, hzx⟩ := hcut
                have e0' := vcell hbx e0
                have e1' := vcell hbx e1
                have e2' := vcell hbx e2
                have f0' : ∀ o, wc.frozen? ⟨W2.heap.size, o, none⟩ = false := fun o => (hbx.frozen (p := ⟨W2.heap.size, o, none⟩) hsz).trans (f0 o)
                have hz2 : W2.heap.size < wc.heap.size := Nat.lt_of_lt_of_le hsz hbx.size
                have n1 : ¬ (wr.heap.size = W2.heap.size) := by omega
                have n2 : ¬ (W2.heap.size = wr.heap.size) := by omega
                have HBc : Below W2.heap.size W2 wc := vbelow_next hbx HB2
                clear e0 e1 e2 f0 p0' p1' hbx
                cases h4 : (r4 == 0) with
                | true =>
                  obtain rfl : r4 = 0 := by simpa using h4
                  go_wp2
                  go_roundw
                  case rel => exact ⟨j + 1, j + 1, r1, r2, r3, 0, by omega, by go_num, by go_num, rfl, HT.out, fun i hi => by (rcases Nat.lt_succ_iff_lt_or_eq.mp hi with h | rfl; exact HER.out i h; exact HE.out), .inl ⟨rfl, rfl⟩, by simp [go_sem, *], by simp [go_sem, *], by simp [go_sem, *], fun o => by simp [go_sem, *], by (try simp only [World.size_setCell]); omega, vbelow_set (vbelow_set (vbelow_set HBc (Nat.le_refl _)) (Nat.le_refl _)) (Nat.le_refl _)⟩
                  case measure => simp [intOf]; omega
                | false =>
                  have h4' : r4 ≠ 0 := by simpa using h4
                  go_wp2
                  go_roundw
                  case rel => exact ⟨j + 1, j, x, y, z, r4, by omega, by go_num, rfl, rfl, HST.out, HER.out, .inr ⟨h4', rfl, HE.out⟩, e0', e1', e2', f0', hz2, HBc⟩
                  case measure => simp [intOf]; omega
            · obtain rfl : j = gs.length := by omega
              have hk1 : decide (((gs.length : Nat) : Int) < ((gs.length : Nat) : Int)) = false := by simp
              go_wp2_with fail
              refine (run23_ok a b c Av gs.length cv kf qf (by omega) wr (fun h0 => (HX.out (by first | exact h0 | simp)).elim fun ad h => ⟨ad, h.1, fun i hi => (h.2.1 i hi).below HB2⟩) HER.out x y z HST.out).mono ?_
              rintro e w3 ⟨rfl, hb3⟩
              have t0 := vcell hb3 e0
              have t1 := vcell hb3 e1
              have t2 := vcell hb3 e2
              have HB3 : Below w.heap.size w w3 := vbelow_next hb3 (vbelow_next HB2 BW)
              have hz3 : W2.heap.size < w3.heap.size := Nat.lt_of_lt_of_le hsz hb3.size
              clear e0 e1 e2 hb3 g0 g1 g2 c0 c1 c2
              go_wp2_with (go_at_call 20; refine (alive20 _).mono ?_; rintro e w4 ⟨rfl, hb4⟩)
              go_ret
              exact ⟨rfl, vbelow_next hb4 (vbelow_alloc HB3 _)⟩
          · have hne' : (ev == 0) = false := by simpa using hne
            go_wp2_with fail
            all_goals
              refine (run23_err a b c Av (gs.length) cv j kf qf (by omega) wr (by omega) (fun h0 => (HX.out (by first | exact h0 | simp)).elim fun ad h => ⟨ad, h.1, fun i hi => (h.2.1 i (by omega)).below HB2⟩) HER.out ev hej (by simpa using hne) x y z HST.out).mono ?_
              rintro e w3 ⟨rfl, hb3⟩
              have t0 := vcell hb3 e0
              have t1 := vcell hb3 e1
              have t2 := vcell hb3 e2
              have HB3 : Below w.heap.size w w3 := vbelow_next hb3 (vbelow_next HB2 BW)
              have hz3 : W2.heap.size < w3.heap.size := Nat.lt_of_lt_of_le hsz hb3.size
              clear e0 e1 e2 hb3 g0 g1 g2 c0 c1 c2
              go_wp2_with (go_at_call 20; refine (alive20 _).mono ?_; rintro e w4 ⟨rfl, hb4⟩)
              go_ret
              exact ⟨rfl, vbelow_next hb4 (vbelow_alloc HB3 _)⟩
      | true =>
        have F1 := own_nil HR.out
        have F2 := fresh_nil HO.out
        have F4 := HBr.size
        go_wp2_with ((with_reducible refine gate_builtin (b := .append) (xs := #[.tmp 37, .tmp 38]) rfl ?_); at_builtin; refine Kd.R_append kdF (w0 := W1) W1.heap.size rfl (.tmp 37) (.tmp 38) 44 29 .nilFunc 8 rfl Try.underlying44 infoF rfl (by decide) (by omega) u7 gs (none : Option Nat) [encF (none : Option Nat)] (okF (gs ++ [none])) (fun _ => False) rfl rfl ?aP (fun _ hk => hk.elim) ?aF ?aO ?aB ?aS ?aL ?_; (case aP => exact rfl); (case aF => exact F2.out); (case aO => exact F1.out); (case aB => exact HBr); (case aS => exact F4); (case aL => omega); intro v1 W2 ho hb hg hat; have HO2 := ops_nil HO.out HR.out hg; obtain ⟨Av, cv, hu, hX⟩ := acts_at (L := gs ++ [none]) HO2 ho (fun i hi => List.getElem?_append_left hi); rw [List.length_append] at hu; simp only [List.length_cons, List.length_nil, Nat.zero_add] at hu; subst hu; have HX := Lib.hid hX; have HBW := hb; have c0 := vcell HBW g0; have c1 := vcell HBW g1; have c2 := vcell HBW g2; clear hX HO HR HBr hlt ho hb hg hat HO2 F1 F2 F4)
        have BW : Below w.heap.size w W2 := vbelow_next HBW HB1
        have HA2 : RowKit.Hid (SliceOps W2 A gs.length kf qf) := fun h0 => by
          obtain ⟨ad, e, hc⟩ := HA.out h0
          exact ⟨ad, e, fun i hi => ⟨vcell HBW (hc i hi).1, vcell HBW (hc i hi).2⟩⟩
        clear HA
        go_loopw [10, 11, 12] (fun s10 s11 s12 wr => ∃ (k j : Nat) (x y z ev : Int), k ≤ gs.length ∧ s12 = .int .i64 k ∧ s10 = .int .i64 j ∧ s11 = .int .i64 ev ∧ st kf qf a b c j = (x, y, z) ∧ (∀ i, i < j → er kf qf a b c i = 0) ∧ ((ev = 0 ∧ j = k) ∨ (ev ≠ 0 ∧ k = j + 1 ∧ er kf qf a b c j = ev)) ∧ wr.cell? ⟨W2.heap.size, 0, none⟩ = some (.int .i64 x) ∧ wr.cell? ⟨W2.heap.size, 1, none⟩ = some (.int .i64 y) ∧ wr.cell? ⟨W2.heap.size, 2, none⟩ = some (.int .i64 z) ∧ (∀ o, wr.frozen? ⟨W2.heap.size, o, none⟩ = false) ∧ W2.heap.size < wr.heap.size ∧ Below W2.heap.size W2 wr)
          (fun _ _ s12 _ => gs.length - (intOf s12).toNat)
        case atStart =>
          refine ⟨0, 0, a, b, c, 0, by omega, rfl, rfl, rfl, rfl, fun i hi => absurd hi (by omega), .inl ⟨rfl, rfl⟩, by simp [go_sem], by simp [go_sem], by simp [go_sem], fun o => by simp [go_sem], by simp, ?_⟩
          exact vbelow_alloc (Below.refl _ _) _
        case round =>
          obtain ⟨k, j, x, y, z, ev, hk, rfl, rfl, rfl, hst, her, hev, e0, e1, e2, f0, hsz, HB2⟩ := hrel
          have HST := Lib.hid hst
          have HER := Lib.hid her
          clear hst her
          have b0 := vcell HB2 c0
          have b1 := vcell HB2 c1
          have b2 := vcell HB2 c2
          rcases hev with ⟨rfl, rfl⟩ | ⟨hne, rfl, hej⟩
          · by_cases hlt : j < gs.length
            · clear b0 b1 b2
              obtain ⟨ad, rfl, hcell⟩ := HA2.out (by omega)
              obtain ⟨p0, p1⟩ := hcell j hlt
              clear hcell
              have p0' := vcell HB2 p0
              have p1' := vcell HB2 p1
              clear p0 p1 c0 c1 c2 g0 g1 g2
              have hk1 : decide (((j : Nat) : Int) < ((gs.length : Nat) : Int)) = true := decide_eq_true (by omega)
              have hk2 : decide (j < gs.length) = true := decide_eq_true hlt
              have l2 : ∀ m : Nat, m < m + 1 + 1 := fun m => by omega
              have hbl := World.block_lt_of_cell? _ _ p0'
              obtain ⟨r1, r2, r3, r4, hR⟩ : ∃ v1 v2 v3 v4, actR (kf j) (qf j) x y z = (v1, v2, v3, v4) := ⟨_, _, _, _, rfl⟩
              obtain ⟨hst', her'⟩ := st_next HST.out hR
              have HR := Lib.hid hR
              have HT := Lib.hid hst'
              have HE := Lib.hid her'
              clear hR hst' her'
              go_upto_region 15 with fail
              go_cut [11] (fun s11 wx => s11 = .int .i64 r4 ∧ wx.cell? ⟨wr.heap.size, 0, none⟩ = some (.int .i64 r1) ∧ wx.cell? ⟨wr.heap.size, 1, none⟩ = some (.int .i64 r2) ∧ wx.cell? ⟨wr.heap.size, 2, none⟩ = some (.int .i64 r3) ∧ Below wr.heap.size wr wx ∧ wr.heap.size < wx.heap.size)
              case first =>
                go_region_held3 (fun W_ => W_.cell? (ad.add (j * 2)) = some (.int .i64 (kf j)) ∧ W_.cell? ⟨(ad.add (j * 2)).block, (ad.add (j * 2)).off + 1, none⟩ = some (.int .i64 (qf j)) ∧ W_.cell? ⟨W2.heap.size, 0, none⟩ = some (.int .i64 x) ∧ W_.cell? ⟨W2.heap.size, 1, none⟩ = some (.int .i64 y) ∧ W_.cell? ⟨W2.heap.size, 2, none⟩ = some (.int .i64 z) ∧ Below wr.heap.size wr W_) ((repeat' apply And.intro) <;> first | (with_reducible assumption) | ((repeat (first | (with_reducible assumption) | ((with_reducible refine vcell_new ?_); rfl) | ((with_reducible refine vcell_new' ?_ ?_); (focus (simp only [World.size_alloc, World.size_drew, World.size_setCell]; done)); rfl) | (with_reducible refine vcell_drew ?_) | ((with_reducible refine vcell_set ?_ ?_); focus (first | (dsimp only; omega) | omega)) | (with_reducible refine vcell_alloc ?_ _) | (with_reducible refine vcell (by assumption) ?_))); done) | ((repeat (first | (with_reducible assumption) | (with_reducible exact Below.refl _ _) | (with_reducible refine vbelow_alloc ?_ _) | (with_reducible refine vbelow_drew ?_) | ((with_reducible refine vbelow_set' ?_ ?_); focus (first | (dsimp only; omega) | omega)) | (with_reducible refine vbelow_next (by assumption) ?_))); done) | go_keep) (first | (go_at_call 22; with_reducible refine (plain22 (kf j) (qf j) x y z r1 r2 r3 r4 HR.out _).mono ?_; rintro e W9 ⟨rfl, hb9⟩; obtain ⟨hcN, hfN⟩ := vbcell hb9; have hzN := hb9.size; (try simp only [World.size_alloc, World.size_drew] at hzN); (try have hzN1 := Nat.lt_of_succ_le hzN)))
                all_goals go_wp2_with fail
                all_goals
                  go_meet
                  refine ⟨rfl, ?_, ?_, ?_, ?_, ?_⟩
                  all_goals first | (simp [go_sem, *]; done) | omega | ((try simp only [World.size_alloc, World.size_drew, World.size_setCell]); omega) | (repeat (first | (with_reducible assumption) | (with_reducible exact Below.refl _ _) | (with_reducible refine vbelow_alloc ?_ _) | (with_reducible refine vbelow_drew ?_) | ((with_reducible refine vbelow_set' ?_ ?_); focus (first | (dsimp only; omega) | omega)) | (with_reducible refine vbelow_next (by assumption) ?_)))
              case rest =>
                obtain ⟨rfl, d0, d1, d2, hbx, hzx⟩ := hcut
                have e0' := vcell hbx e0
                have e1' := vcell hbx e1
                have e2' := vcell hbx e2
                have f0' : ∀ o, wc.frozen? ⟨W2.heap.size, o, none⟩ = false := fun o => (hbx.frozen (p := ⟨W2.heap.size, o, none⟩) hsz).trans (f0 o)
                have hz2 : W2.heap.size < wc.heap.size := Nat.lt_of_lt_of_le hsz hbx.size
                have n1 : ¬ (wr.heap.size = W2.heap.size) := by omega
                have n2 : ¬ (W2.heap.size = wr.heap.size) := by omega
                have HBc : Below W2.heap.size W2 wc := vbelow_next hbx HB2
                clear e0 e1 e2 f0 p0' p1' hbx
                cases h4 : (r4 == 0) with
                | true =>
                  obtain rfl : r4 = 0 := by simpa using h4
                  go_wp2
                  go_roundw
                  case rel => exact ⟨j + 1, j + 1, r1, r2, r3, 0, by omega, by go_num, by go_num, rfl, HT.out, fun i hi => by (rcases Nat.lt_succ_iff_lt_or_eq.mp hi with h | rfl; exact HER.out i h; exact HE.out), .inl ⟨rfl, rfl⟩, by simp [go_sem, *], by simp [go_sem, *], by simp [go_sem, *], fun o => by simp [go_sem, *], by (try simp only [World.size_setCell]); omega, vbelow_set (vbelow_set (vbelow_set HBc (Nat.le_refl _)) (Nat.le_refl _)) (Nat.le_refl _)⟩
                  case measure => simp [intOf]; omega
                | false =>
                  have h4' : r4 ≠ 0 := by simpa using h4
                  go_wp2
                  go_roundw
                  case rel => exact ⟨j + 1, j, x, y, z, r4, by omega, by go_num, rfl, rfl, HST.out, HER.out, .inr ⟨h4', rfl, HE.out⟩, e0', e1', e2', f0', hz2, HBc⟩
                  case measure => simp [intOf]; omega
            · obtain rfl : j = gs.length := by omega
              have hk1 : decide (((gs.length : Nat) : Int) < ((gs.length : Nat) : Int)) = false := by simp
              go_wp2_with fail
              refine (run23_nil a b c Av (gs.length + 1) cv gs.length kf qf (by omega) wr (by omega) (fun h0 => (HX.out (by first | exact h0 | simp)).elim fun ad h => ⟨ad, h.1, fun i hi => (h.2.1 i hi).below HB2, vcell HB2 (h.2.2 gs.length (by simp))⟩) HER.out x y z HST.out).mono ?_
              rintro e w3 ⟨rfl, hb3⟩
              have t0 := vcell hb3 e0
              have t1 := vcell hb3 e1
              have t2 := vcell hb3 e2
              have HB3 : Below w.heap.size w w3 := vbelow_next hb3 (vbelow_next HB2 BW)
              have hz3 : W2.heap.size < w3.heap.size := Nat.lt_of_lt_of_le hsz hb3.size
              clear e0 e1 e2 hb3 g0 g1 g2 c0 c1 c2
              go_wp2_with (go_at_call 20; refine (alive20 _).mono ?_; rintro e w4 ⟨rfl, hb4⟩)
              go_ret
              exact ⟨rfl, vbelow_next hb4 (vbelow_alloc HB3 _)⟩
          · have hne' : (ev == 0) = false := by simpa using hne
            go_wp2_with fail
            all_goals
              refine (run23_err a b c Av (gs.length + 1) cv j kf qf (by omega) wr (by omega) (fun h0 => (HX.out (by first | exact h0 | simp)).elim fun ad h => ⟨ad, h.1, fun i hi => (h.2.1 i (by omega)).below HB2⟩) HER.out ev hej (by simpa using hne) x y z HST.out).mono ?_
              rintro e w3 ⟨rfl, hb3⟩
              have t0 := vcell hb3 e0
              have t1 := vcell hb3 e1
              have t2 := vcell hb3 e2
              have HB3 : Below w.heap.size w w3 := vbelow_next hb3 (vbelow_next HB2 BW)
              have hz3 : W2.heap.size < w3.heap.size := Nat.lt_of_lt_of_le hsz hb3.size
              clear e0 e1 e2 hb3 g0 g1 g2 c0 c1 c2
              go_wp2_with (go_at_call 20; refine (alive20 _).mono ?_; rintro e w4 ⟨rfl, hb4⟩)
              go_ret
              exact ⟨rfl, vbelow_next hb4 (vbelow_alloc HB3 _)⟩

theorem runs6all (a b c : Int) (A : Option Addr) (n cap : Nat) (kf qf : Nat → Int) (nn : Bool) (hc : n ≤ cap) (w : World) (hA : SliceOps w A n kf qf) :
    Calls Try.prog 6 #[.agg #[.int .i64 a, .int .i64 b, .int .i64 c], .slice A n cap, .bool nn] w fun e w' => e = .returned (.bool true) ∧ Below w.heap.size w w' := by
  by_cases h : n ≤ 80
  · exact runs6 a b c A n n cap kf qf nn h (.inl ⟨h, rfl⟩) w hA
  · refine runs6 a b c A n 80 cap kf qf nn (Nat.le_refl _) (.inr ⟨by omega, rfl, hc⟩) w fun h0 => ?_
    obtain ⟨ad, e, hcell⟩ := hA (by omega)
    exact ⟨ad, e, fun i hi => hcell i (by omega)⟩

end Go.Proofs.Ytfjljlhlifnnlaa.Q
