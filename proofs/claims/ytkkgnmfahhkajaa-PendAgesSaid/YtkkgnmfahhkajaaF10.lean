/- Layer 18: two places, one of which is given again. -/
import Derived.Test.YtkkgnmfahhkajaaF9
namespace Go.Proofs.Ytkkgnmfahhkajaa.Q
open Go.RowKit Go.Proofs.YtkkgnmfahhkajaaW.PrintWords Go.Proofs.YtkkgnmfahhkajaaW.PrintMore
set_option linter.unusedVariables false
set_option linter.unusedSimpArgs false
def pollR : S29 := ⟨9, 0, 0, 0, 0⟩
def opA (n s : Int) : S42 := ⟨n, ⟨9, 0, 0, 0, 0⟩, s, 0, 0, ⟨0, 0⟩, 0⟩
theorem av1 : addV 2 1 [] pollR = (2, 2, [opA 1 1], 1, 0) := by kernel_rfl
theorem av2 : addV 2 2 [opA 1 1] pollR = (2, 3, [opA 1 1, opA 2 1], 2, 0) := by kernel_rfl
theorem av3 : addV 2 3 [opA 1 1, opA 2 1] pollR = (0, 0, [], 0, 181) := by kernel_rfl
theorem av4 : (if chkV 2 3 [opA 1 1, opA 2 1] = 0 then (([opA 1 1, opA 2 1] : List S42).length : Int) == 2 else false) = true := by kernel_rfl
theorem av5 : workV 2 3 [opA 1 1, opA 2 1] = 2 := by kernel_rfl
theorem av6 : getV 2 3 [opA 1 1, opA 2 1] 1 = (opA 1 1, true) := by kernel_rfl
theorem av7 : setV 2 3 [opA 1 1, opA 2 1] (opA 1 7) = (2, 3, [opA 2 1], 0) := by kernel_rfl
theorem av8 : addV 2 3 [opA 2 1] pollR = (2, 4, [opA 2 1, opA 3 1], 3, 0) := by kernel_rfl
theorem av9 : chkV 2 4 [opA 2 1, opA 3 1] = 0 := by kernel_rfl
theorem poll28 (w : World) : Calls Try.prog 28 #[] w fun e w' => e = .returned (.agg #[.int .u8 9, .int .u8 0, .int .u8 0, .int .u32 0, .int .u64 0]) ∧ Below w.heap.size w w' := rampartlaw18_poll.calls 9 0 0 0 0 w rfl
set_option maxHeartbeats 8000000 in
set_option maxRecDepth 100000 in
theorem awake13 (w : World) : Calls Try.prog 13 #[] w fun e w' => e = .returned (.bool true) ∧ Below w.heap.size w w' := by
  go_enter Try.func13, Try.ntmps13
  go_wp2_with fail
  refine (new20 _ 2 2 1 0 [] rfl).mono ?_
  rintro e w1 ⟨A, c, rfl, hc, hC, hF, hb1⟩
  go_upto_region 2 with fail
  have HP := heap_alloc_new w1 (.cells #[.int .i64 2, .int .i64 1, .slice A 0 c] 24)
  have hC := Kd.C_alloc hC (.cells #[.int .i64 2, .int .i64 1, .slice A 0 c] 24)
  have HB : Below w.heap.size w (w1.alloc (.cells #[.int .i64 2, .int .i64 1, .slice A 0 c] 24)) := vbelow_alloc hb1 _
  have hpw := hb1.size
  generalize hp : w1.heap.size = p at HP hpw ⊢
  generalize hwa : (w1.alloc (.cells #[.int .i64 2, .int .i64 1, .slice A 0 c] 24)) = wa at HP hC HB ⊢
  clear hwa hF hb1
  go_cut [3, 4] (fun v3 v4 wx => v3 = .int .i64 1 ∧ v4 = .int .i64 0 ∧ ∃ A c, wx.heap[p]? = some (.cells #[.int .i64 2, .int .i64 2, .slice A 1 c] 24 (0, 0)) ∧ 1 ≤ c ∧ Kd.C k42 wx A 1 [opA 1 1] ∧ Below w.heap.size w wx)
  case first =>
    obtain ⟨p0, p1, p2, pF⟩ := blk3 HP
    clear pF
    go_region_with (first | (go_at_call 28; refine (poll28 _).mono ?_; rintro e w2 ⟨rfl, hb2⟩; have HP2 := (hb2.block _ (heap_lt HP)).trans HP; have hC2 := Kd.C_below (Kd.C_drew hC) hb2; have HB2 := vbelow_step (vbelow_drew HB) hb2; obtain ⟨P0, P1, P2, PF⟩ := blk3 HP2; clear PF) | (go_at_call 8; refine (add8 _ 2 1 A c [] pollR hC2 hc (by simp) _ _ _ _ _ av1).mono ?_; rintro e w3 ⟨A3, c3, rfl, hc3, hC3, hF3, hb3⟩; have HP3 := (hb3.block _ (heap_lt HP2)).trans HP2; have HB3 := vbelow_step HB2 hb3; obtain ⟨U0, U1, U2, UF⟩ := blk3 HP3; have uf0 := UF 0; have uf1 := UF 1; have uf2 := UF 2; clear UF))
    all_goals go_wp2_with fail
    all_goals (go_meet; exact ⟨rfl, rfl, A3, c3, put3 HP3 _ _ _, hc3, C_far (p := ⟨p, 2, none⟩) (C_far (p := ⟨p, 1, none⟩) (C_far (p := ⟨p, 0, none⟩) hC3 (fun ad_ e_ => Nat.ne_of_lt (Nat.lt_of_lt_of_le (heap_lt HP2) (hF3 ad_ e_))) _) (fun ad_ e_ => Nat.ne_of_lt (Nat.lt_of_lt_of_le (heap_lt HP2) (hF3 ad_ e_))) _) (fun ad_ e_ => Nat.ne_of_lt (Nat.lt_of_lt_of_le (heap_lt HP2) (hF3 ad_ e_))) _, vbelow_set (vbelow_set (vbelow_set HB3 hpw) hpw) hpw⟩)
  case rest =>
    clear HP hc hC HB
    obtain ⟨rfl, rfl, A, c, HP, hc, hC, HB⟩ := hcut
    rename World => wa
    go_upto_region 3 with fail
    go_cut [5, 6] (fun v5 v6 wx => v5 = .int .i64 2 ∧ v6 = .int .i64 0 ∧ ∃ A c, wx.heap[p]? = some (.cells #[.int .i64 2, .int .i64 3, .slice A 2 c] 24 (0, 0)) ∧ 2 ≤ c ∧ Kd.C k42 wx A 2 [opA 1 1, opA 2 1] ∧ Below w.heap.size w wx)
    case first =>
      obtain ⟨p0, p1, p2, pF⟩ := blk3 HP
      clear pF
      go_region_with (first | (go_at_call 28; refine (poll28 _).mono ?_; rintro e w2 ⟨rfl, hb2⟩; have HP2 := (hb2.block _ (heap_lt HP)).trans HP; have hC2 := Kd.C_below (Kd.C_drew hC) hb2; have HB2 := vbelow_step (vbelow_drew HB) hb2; obtain ⟨P0, P1, P2, PF⟩ := blk3 HP2; clear PF) | (go_at_call 8; refine (add8 _ 2 2 A c [opA 1 1] pollR hC2 hc (by simp) _ _ _ _ _ av2).mono ?_; rintro e w3 ⟨A3, c3, rfl, hc3, hC3, hF3, hb3⟩; have HP3 := (hb3.block _ (heap_lt HP2)).trans HP2; have HB3 := vbelow_step HB2 hb3; obtain ⟨U0, U1, U2, UF⟩ := blk3 HP3; have uf0 := UF 0; have uf1 := UF 1; have uf2 := UF 2; clear UF))
      all_goals go_wp2_with fail
      all_goals (go_meet; exact ⟨rfl, rfl, A3, c3, put3 HP3 _ _ _, hc3, C_far (p := ⟨p, 2, none⟩) (C_far (p := ⟨p, 1, none⟩) (C_far (p := ⟨p, 0, none⟩) hC3 (fun ad_ e_ => Nat.ne_of_lt (Nat.lt_of_lt_of_le (heap_lt HP2) (hF3 ad_ e_))) _) (fun ad_ e_ => Nat.ne_of_lt (Nat.lt_of_lt_of_le (heap_lt HP2) (hF3 ad_ e_))) _) (fun ad_ e_ => Nat.ne_of_lt (Nat.lt_of_lt_of_le (heap_lt HP2) (hF3 ad_ e_))) _, vbelow_set (vbelow_set (vbelow_set HB3 hpw) hpw) hpw⟩)
    case rest =>
      clear HP hc hC HB
      obtain ⟨rfl, rfl, A, c, HP, hc, hC, HB⟩ := hcut
      rename World => wa
      go_upto_region 4 with fail
      go_cut [9] (fun v9 wx => v9 = .int .i64 181 ∧ Below wa.heap.size wa wx)
      case first =>
        obtain ⟨p0, p1, p2, pF⟩ := blk3 HP
        have hpa := heap_lt HP
        clear pF
        go_region_with (first | (go_at_call 28; refine (poll28 _).mono ?_; rintro e w2 ⟨rfl, hb2⟩; obtain ⟨hc2_, hf2_⟩ := vbcell hb2; have hz2 := hb2.size; (try simp only [World.size_alloc, World.size_drew, World.size_setCell] at hz2); (try have hy2 := Nat.lt_of_succ_le hz2); have B2 : Below wa.heap.size wa w2 := vbelow_step (by (repeat (first | (with_reducible assumption) | (with_reducible exact Below.refl _ _) | (with_reducible refine vbelow_alloc ?_ _) | (with_reducible refine vbelow_drew ?_) | ((with_reducible refine vbelow_set' ?_ ?_); focus (first | (dsimp only; omega) | omega))))) hb2; have HP2 := (B2.block _ (heap_lt HP)).trans HP; have hC2 := Kd.C_below hC B2; obtain ⟨P0, P1, P2, PF⟩ := blk3 HP2; have hp2 := heap_lt HP2; clear PF hb2) | (go_at_call 8; refine (add8 _ 2 3 A c [opA 1 1, opA 2 1] pollR (by first | exact hC2 | exact Kd.C_alloc hC2 _) hc (by simp) _ _ _ _ _ av3).mono ?_; rintro e w3 ⟨A3, c3, rfl, hc3, hC3, hF3, hb3⟩; obtain ⟨hc3_, hf3_⟩ := vbcell hb3; have hz3 := hb3.size; (try simp only [World.size_alloc, World.size_drew, World.size_setCell] at hz3); (try have hy3 := Nat.lt_of_succ_le hz3); have B3 : Below wa.heap.size wa w3 := vbelow_step (by (repeat (first | (with_reducible assumption) | (with_reducible exact Below.refl _ _) | (with_reducible refine vbelow_alloc ?_ _) | (with_reducible refine vbelow_drew ?_) | ((with_reducible refine vbelow_set' ?_ ?_); focus (first | (dsimp only; omega) | omega))))) hb3; clear hb3))
        all_goals go_wp2_with fail
        all_goals (go_meet; refine ⟨rfl, ?_⟩; have hs2 := B2.size; have hs3 := B3.size; (try simp only [World.size_alloc, World.size_drew, World.size_setCell]); (repeat (first | (with_reducible assumption) | (with_reducible exact Below.refl _ _) | (with_reducible refine vbelow_alloc ?_ _) | (with_reducible refine vbelow_drew ?_) | ((with_reducible refine vbelow_set' ?_ ?_); focus (first | (dsimp only; omega) | omega)))))
      case rest =>
        obtain ⟨rfl, Bx⟩ := hcut
        have HP := (Bx.block _ (heap_lt HP)).trans HP
        have hC := Kd.C_below hC Bx
        have HB := vbelow_step HB Bx
        clear Bx
        rename World => wb
        go_upto_region 5 with fail
        obtain ⟨p0, p1, p2, pF⟩ := blk3 HP
        clear pF
        have q0 := gw_cell p0
        have q1 := gw_cell p1
        have q2 := gw_cell p2
        refine wp_region_quietB (by kernel_rfl) (by kernel_rfl) ?_
        repeat (first | go_big_quiet_step ((first | (go_at_call 11; exact quietB_of (full11 _ 2 3 A c [opA 1 1, opA 2 1] (Kd.C_below hC (GW.property _)) hc (by simp) true av4)) | (go_at_call 18; exact quietB_of (work18 _ 2 3 A c [opA 1 1, opA 2 1] (Kd.C_below hC (GW.property _)) hc (by simp) 2 av5)))) | quiet_step ((first | (go_at_call 11; exact quietB_of (full11 _ 2 3 A c [opA 1 1, opA 2 1] (Kd.C_below hC (GW.property _)) hc (by simp) true av4)) | (go_at_call 18; exact quietB_of (work18 _ 2 3 A c [opA 1 1, opA 2 1] (Kd.C_below hC (GW.property _)) hc (by simp) 2 av5)))))
        refine wpQuiet_nil ?_
        rintro w9 ⟨⟨wq_, hb9⟩, hwq_⟩
        obtain rfl : w9 = wq_ := hwq_
        have HP9 := (hb9.block _ (heap_lt HP)).trans HP
        have hC9 := Kd.C_below hC hb9
        have HB9 := vbelow_step HB hb9
        obtain ⟨g0, g1, g2, gF⟩ := blk3 HP9
        clear gF p0 p1 p2 q0 q1 q2
        go_wp2_with fail
        refine (get14 _ 2 3 A c [opA 1 1, opA 2 1] 1 hC9 hc (by simp) (opA 1 1) true av6).mono ?_
        rintro e w4 ⟨rfl, hb4⟩
        have HP4 := (hb4.block _ (heap_lt HP9)).trans HP9
        have hC4 := Kd.C_below hC9 hb4
        have HB4 := vbelow_step HB9 hb4
        have hpo : p ≠ w4.heap.size := Nat.ne_of_lt (heap_lt HP4)
        have hpo' := hpo.symm
        have hpl := heap_lt HP4
        obtain ⟨h0, h1, h2, hF4⟩ := blk3 HP4
        clear hF4 g0 g1 g2
        simp only [opA]
        go_wp2_with fail
        refine (set16 _ 2 3 A c [opA 1 1, opA 2 1] (opA 1 7) (Kd.C_alloc hC4 _) hc (by simp) _ _ _ _ av7).mono ?_
        clear hc
        rintro e w5 ⟨A, c, rfl, hc, hC5, hF5, hb5⟩
        have HP5 := (hb5.block _ (heap_lt (blk_alloc HP4 _))).trans (blk_alloc HP4 (.cells #[.int .i64 1, .int .u8 9, .int .u8 0, .int .u8 0, .int .u32 0, .int .u64 0, .int .i64 7, .int .i64 0, .int .i64 0, .int .u64 0, .int .u64 0, .int .u64 0] 42))
        have HB5 := vbelow_step (vbelow_alloc HB4 _) hb5
        have hpf : ∀ ad_, A = some ad_ → p ≠ ad_.block := fun ad_ e_ => Nat.ne_of_lt (Nat.lt_of_lt_of_le (heap_lt (blk_alloc HP4 (.cells #[.int .i64 1, .int .u8 9, .int .u8 0, .int .u8 0, .int .u32 0, .int .u64 0, .int .i64 7, .int .i64 0, .int .i64 0, .int .u64 0, .int .u64 0, .int .u64 0] 42))) (hF5 ad_ e_))
        obtain ⟨U0, U1, U2, UF⟩ := blk3 HP5
        have uf0 := UF 0
        have uf1 := UF 1
        have uf2 := UF 2
        clear UF h0 h1 h2
        go_upto_region 9 with fail
        have HP6 := put3 HP5 (.int .i64 2) (.int .i64 3) (.slice A 1 c)
        have hC6 := C_far (p := ⟨p, 2, none⟩) (C_far (p := ⟨p, 1, none⟩) (C_far (p := ⟨p, 0, none⟩) hC5 hpf (.int .i64 2)) hpf (.int .i64 3)) hpf (.slice A 1 c)
        have HB6 : Below w.heap.size w (((w5.setCell ⟨p, 0, none⟩ (.int .i64 2)).setCell ⟨p, 1, none⟩ (.int .i64 3)).setCell ⟨p, 2, none⟩ (.slice A 1 c)) := vbelow_set (vbelow_set (vbelow_set HB5 hpw) hpw) hpw
        clear HP hC HB HP5 hC5 HB5 U0 U1 U2 uf0 uf1 uf2
        generalize hW : (((w5.setCell ⟨p, 0, none⟩ (.int .i64 2)).setCell ⟨p, 1, none⟩ (.int .i64 3)).setCell ⟨p, 2, none⟩ (.slice A 1 c)) = wc at HP6 hC6 HB6 ⊢
        clear hW HP9 hC9 HB9 HP4 hC4 HB4 hb9 hb4 hb5 hpf hF5
        have HP := HP6
        have hC := hC6
        have HB := HB6
        clear HP6 hC6 HB6
        go_cut [15, 16] (fun v15 v16 wx => v15 = .int .i64 3 ∧ v16 = .int .i64 0 ∧ ∃ A c, wx.heap[p]? = some (.cells #[.int .i64 2, .int .i64 4, .slice A 2 c] 24 (0, 0)) ∧ 2 ≤ c ∧ Kd.C k42 wx A 2 [opA 2 1, opA 3 1] ∧ Below w.heap.size w wx)
        case first =>
          obtain ⟨p0, p1, p2, pF⟩ := blk3 HP
          clear pF
          go_region_with (first | (go_at_call 28; refine (poll28 _).mono ?_; rintro e w2 ⟨rfl, hb2⟩; have HP2 := (hb2.block _ (heap_lt HP)).trans HP; have hC2 := Kd.C_below (Kd.C_drew hC) hb2; have HB2 := vbelow_step (vbelow_drew HB) hb2; obtain ⟨P0, P1, P2, PF⟩ := blk3 HP2; clear PF) | (go_at_call 8; refine (add8 _ 2 3 A c [opA 2 1] pollR hC2 hc (by simp) _ _ _ _ _ av8).mono ?_; rintro e w3 ⟨A3, c3, rfl, hc3, hC3, hF3, hb3⟩; have HP3 := (hb3.block _ (heap_lt HP2)).trans HP2; have HB3 := vbelow_step HB2 hb3; obtain ⟨U0, U1, U2, UF⟩ := blk3 HP3; have uf0 := UF 0; have uf1 := UF 1; have uf2 := UF 2; clear UF))
          all_goals go_wp2_with fail
          all_goals (go_meet; exact ⟨rfl, rfl, A3, c3, put3 HP3 _ _ _, hc3, C_far (p := ⟨p, 2, none⟩) (C_far (p := ⟨p, 1, none⟩) (C_far (p := ⟨p, 0, none⟩) hC3 (fun ad_ e_ => Nat.ne_of_lt (Nat.lt_of_lt_of_le (heap_lt HP2) (hF3 ad_ e_))) _) (fun ad_ e_ => Nat.ne_of_lt (Nat.lt_of_lt_of_le (heap_lt HP2) (hF3 ad_ e_))) _) (fun ad_ e_ => Nat.ne_of_lt (Nat.lt_of_lt_of_le (heap_lt HP2) (hF3 ad_ e_))) _, vbelow_set (vbelow_set (vbelow_set HB3 hpw) hpw) hpw⟩)
        case rest =>
          clear HP hc hC HB
          obtain ⟨rfl, rfl, A, c, HP, hc, hC, HB⟩ := hcut
          rename World => wa
          obtain ⟨P0, P1, P2, PF⟩ := blk3 HP
          clear PF
          obtain ⟨ad, rfl, Q0, _⟩ := at_T42 hC (0 : Int) (by decide) (by decide)
          have Q0 : wa.cell? (ad.add 0) = some (.int .i64 2) := Q0
          rw [Addr.add_zero'] at Q0
          go_wp2_with fail
          refine (check23 _ 2 4 (some ad) c [opA 2 1, opA 3 1] hC hc (by simp) 0 av9).mono ?_
          rintro e w6 ⟨rfl, hb6⟩
          go_wp2
          go_ret
          exact ⟨rfl, vbelow_step HB hb6⟩
end Go.Proofs.Ytkkgnmfahhkajaa.Q
