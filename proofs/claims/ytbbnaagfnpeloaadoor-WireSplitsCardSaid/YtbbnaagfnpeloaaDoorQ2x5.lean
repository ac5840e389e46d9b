-- Printed by a program of this session (wip/tools: the kit's printer, with functions proved by hand let in).
import Derived.Test.YtbbnaagfnpeloaaDoorQ2x0
import Derived.Test.YtbbnaagfnpeloaaDoorQ2x4
import Derived.Test.YtbbnaagfnpeloaaDoorE18
import Derived.Test.YtbbnaagfnpeloaaDoorE19
import Derived.Test.YtbbnaagfnpeloaaDoorV
namespace Go.Proofs.YtbbnaagfnpeloaaDoor.Q2
open Go.RowKit Go.Proofs.YtbbnaagfnpeloaaDoorW.PrintWords Go.Proofs.YtbbnaagfnpeloaaDoorW.PrintLast Go.Proofs.YtbbnaagfnpeloaaDoorW.PrintMore
attribute [local go_sem] max2_int min2_int max_two min_two max_three min_three max_four min_four   -- for this text's walks alone
set_option linter.unusedVariables false
set_option linter.unusedSimpArgs false

/-! ### rampartlaw03_WireSplits: function 5 -/
def rampartlaw03_WireSplits.l0 : Nat → List Int → Int → List (List Int) → List Int → Int → Option (Bool)
  | 0, _, _, _, _, _ => none
  | k + 1, x0, x1, x5, x6, x7 => if x7 < (x5.length : Int) then (if 0 ≤ x7 then (if x6.length + (rd_L2 x5 x7).length < 140737488355328 then (rampartlaw03_WireSplits.l0 k x0 x1 x5 (x6 ++ (rd_L2 x5 x7)) (wrap64 (x7 + 1))) else (none)) else (none)) else (if (x6.length : Int) ≤ (x0.length : Int) then (if 0 ≤ (x6.length : Int) then (if (strOfNums x6).toList = (strOfNums (x0.take ((x6.length : Int) : Int).toNat)).toList then (if x1 < 30 then ((rampartlaw03_alive.f).bind fun t174 => (some t174)) else (if (x6.length : Int) = (x0.length : Int) then ((rampartlaw03_alive.f).bind fun t175 => (some t175)) else (some false))) else (some false)) else (none)) else (some false))
def rampartlaw03_WireSplits.f (k : Nat) (l0 : List Int) (a1 : Int) : Option (Bool) := (some (l0.take 400 : List Int)).bind fun y158 => ((wire_Split.f k y158 a1).bind fun t162 => ((rampartref03_Split.f k y158 a1).bind fun t165 => ((rampartref03_SamePieces.f k t162 t165).bind fun t168 => (if t168 = true then (rampartlaw03_WireSplits.l0 k y158 a1 t162 ([] : List Int) 0) else (some false)))))
theorem rampartlaw03_WireSplits.mono_l : ∀ k, (∀ y0 y1 y2 y3 y4, LeO (rampartlaw03_WireSplits.l0 k y0 y1 y2 y3 y4) (rampartlaw03_WireSplits.l0 (k + 1) y0 y1 y2 y3 y4))
  | 0 => fun _ _ _ _ _ r h => by simp [rampartlaw03_WireSplits.l0] at h
  | k + 1 => by
    have ih0 := rampartlaw03_WireSplits.mono_l k
    · intro y0 y1 y2 y3 y4
      unfold rampartlaw03_WireSplits.l0
      repeat' first
      | (with_reducible exact ih0 _ _ _ _ _)
      | (with_reducible exact rampartref03_SamePieces.mono _ _ _)
      | (with_reducible exact rampartref03_Split.mono _ _ _)
      | (with_reducible exact wire_Split.mono _ _ _)
      | (with_reducible exact LeO.refl _)
      | (with_reducible exact LeO.none _)
      | (with_reducible refine LeO.ite ?_ ?_)
      | (with_reducible refine LeO.bind ?_ (fun _ => ?_))
      | exact ih0 _ _ _ _ _
      | exact rampartref03_SamePieces.mono _ _ _
      | exact rampartref03_Split.mono _ _ _
      | exact wire_Split.mono _ _ _
      | exact LeO.none _
      | refine LeO.ite ?_ ?_
      | refine LeO.bind ?_ (fun _ => ?_)
theorem rampartlaw03_WireSplits.mono : ∀ a0 a1 k, LeO (rampartlaw03_WireSplits.f k a0 a1) (rampartlaw03_WireSplits.f (k + 1) a0 a1) := by
  intro a0 a1 k
  have ih0 := rampartlaw03_WireSplits.mono_l k
  unfold rampartlaw03_WireSplits.f
  repeat' first
      | (with_reducible exact ih0 _ _ _ _ _)
      | (with_reducible exact rampartref03_SamePieces.mono _ _ _)
      | (with_reducible exact rampartref03_Split.mono _ _ _)
      | (with_reducible exact wire_Split.mono _ _ _)
      | (with_reducible exact LeO.refl _)
      | (with_reducible exact LeO.none _)
      | (with_reducible refine LeO.ite ?_ ?_)
      | (with_reducible refine LeO.bind ?_ (fun _ => ?_))
      | exact ih0 _ _ _ _ _
      | exact rampartref03_SamePieces.mono _ _ _
      | exact rampartref03_Split.mono _ _ _
      | exact wire_Split.mono _ _ _
      | exact LeO.none _
      | refine LeO.ite ?_ ?_
      | refine LeO.bind ?_ (fun _ => ?_)
def rampartlaw03_WireSplits.T10 : Bool × List (List Nat × List Nat) := (true, [([], []), ([0], [0]), ([], []), ([2], [2]), ([1, 3], [1, 3]), ([4], [4]), ([5], [5]), ([6, 5], [5, 6]), ([5], [5]), ([5], [5]), ([9, 5], [5, 9]), ([8, 10, 5], [5, 8, 10]), ([11, 5], [5, 11]), ([7, 12, 5], [5, 7, 12]), ([5, 13], [5, 13]), ([14, 5], [14]), ([15], [15]), ([16, 15], [15, 16]), ([17, 15, 15], [15, 17]), ([18], [18]), ([19, 18], [18, 19]), ([18], [18]), ([21, 18], [18, 21]), ([20, 22, 18], [18, 20, 22]), ([18, 23, 15], [15, 18, 23]), ([15, 24], [15, 24]), ([25, 18], [25]), ([26, 26], [26]), ([26, 27], [26, 27]), ([28, 27, 0, 1, 2, 3, 4, 5, 6, 7, 8, 9, 10, 11, 12, 13, 14, 15, 16, 17, 18, 19, 20, 21, 22, 23, 24, 25, 26, 27, 28], [28])])
def rampartlaw03_WireSplits.B10 : List Nat := [0, 1, 0, 4, 15, 31, 63, 127, 63, 63, 575, 1855, 3903, 8191, 16383, 32767, 65535, 131071, 262143, 524287, 1048575, 524287, 2621439, 8388607, 16777215, 33554431, 67108863, 134217727, 268435455, 536870911]
theorem rampartlaw03_WireSplits.tab10 : rtab .any (opsOf Tryd.f5 10) = rampartlaw03_WireSplits.T10 := by kernel_rfl
theorem rampartlaw03_WireSplits.bits10 : waitsOk rampartlaw03_WireSplits.T10.2 rampartlaw03_WireSplits.B10 = true := by kernel_rfl
set_option maxHeartbeats 8000000 in
set_option maxRecDepth 100000 in
theorem rampartlaw03_WireSplits.calls (k : Nat) (A0 : Option Addr) (c0 : Nat) (l0 : List Int) (a1 : Int) (r : Bool) (w : World) (hr0 : Kd.C (Kd.int .u8) w A0 l0.length l0) (hc0 : l0.length ≤ c0) (hP : Q.PartsHeld w) (hr : r = true) (h : rampartlaw03_WireSplits.f k l0 a1 = some r) :
    Calls Tryd.prog 5 #[.slice A0 l0.length c0, .int .i64 a1] w fun e w' => e = .returned (.bool r) ∧ Below w.heap.size w w' := by
  have HP0 := Aside0.mk hP
  clear hP
  have HR0 := Aside0.mk hr0
  have HC0 := Aside0.mk hc0
  clear hr0 hc0
  have HB := Aside0.mk (Below.refl w.heap.size w)
  have H : ((some (l0.take 400 : List Int)).bind fun y158 => ((wire_Split.f k y158 a1).bind fun t162 => ((rampartref03_Split.f k y158 a1).bind fun t165 => ((rampartref03_SamePieces.f k t162 t165).bind fun t168 => (if t168 = true then (rampartlaw03_WireSplits.l0 k y158 a1 t162 ([] : List Int) 0) else (some false)))))) = some r := h
  clear h
  obtain ⟨y158, hy158⟩ : ∃ y_ : List Int, y_ = (l0.take 400) := ⟨_, rfl⟩
  replace H : ((wire_Split.f k y158 a1).bind fun t162 => ((rampartref03_Split.f k y158 a1).bind fun t165 => ((rampartref03_SamePieces.f k t162 t165).bind fun t168 => (if t168 = true then (rampartlaw03_WireSplits.l0 k y158 a1 t162 ([] : List Int) 0) else (some false))))) = some r := by first | (rw [hy158]; with_reducible exact H) | (have H2_ := (Option.bind_some _ _).symm.trans H; rw [hy158]; with_reducible exact H2_) | (have H2_ := (Option.bind_some _ _).symm.trans H; with_reducible exact H2_) | with_reducible exact H | (rw [hy158]; exact H) | exact H
  have Ny158 := Aside0.mk hy158
  clear hy158
  replace H := Option.bind_eq_some_iff.mp H
  obtain ⟨t162, A30, H⟩ := H
  replace H : ((rampartref03_Split.f k y158 a1).bind fun t165 => ((rampartref03_SamePieces.f k t162 t165).bind fun t168 => (if t168 = true then (rampartlaw03_WireSplits.l0 k y158 a1 t162 ([] : List Int) 0) else (some false)))) = some r := H
  have A3 := Aside0.mk A30
  clear A30
  replace H := Option.bind_eq_some_iff.mp H
  obtain ⟨t165, A40, H⟩ := H
  replace H : ((rampartref03_SamePieces.f k t162 t165).bind fun t168 => (if t168 = true then (rampartlaw03_WireSplits.l0 k y158 a1 t162 ([] : List Int) 0) else (some false))) = some r := H
  have A4 := Aside0.mk A40
  clear A40
  replace H := Option.bind_eq_some_iff.mp H
  obtain ⟨t168, A50, H⟩ := H
  replace H : (if t168 = true then (rampartlaw03_WireSplits.l0 k y158 a1 t162 ([] : List Int) 0) else (some false)) = some r := H
  have A5 := Aside0.mk A50
  clear A50
  by_cases c6 : t168 = true
  · subst c6
    have H1 : (rampartlaw03_WireSplits.l0 k y158 a1 t162 ([] : List Int) 0) = some r := by rw [if_pos rfl] at H; exact H
    clear H
    have H := H1
    clear H1
    have H' := Aside0.mk H
    clear H
    have HR161 := Aside0.mk (few_cut 400 HR0.out Ny158.out)
    have HC161 := Aside0.mk (few_cap 400 HC0.out Ny158.out)
    go_enter Tryd.func5, Tryd.ntmps5
    go_wp2_with (first | ((with_reducible refine gate_callee (f := 19) rfl ?_); refine goesL_ (some 9) rfl rfl Tryd.func19 (by kernel_rfl) rfl #[.slice A0 l0.length c0] rfl (by (try simp only [List.map_toArray, List.map_cons, List.map_nil]); first | done | rfl) ?_; (refine (few_calls A0 c0 l0 y158 _ HC0.out Ny158.out).mono ?_); rintro e w' ⟨rfl, rfl⟩; refine ⟨_, rfl, ?_⟩) | ((with_reducible refine gate_callee (f := 20) rfl ?_); refine goesL_ (some 12) rfl rfl Tryd.func20 (by kernel_rfl) rfl #[.slice A0 y158.length c0, .int .i64 a1] rfl (by (try simp only [List.map_toArray, List.map_cons, List.map_nil]); first | done | rfl | (simp only [List.length_drop, List.length_take]; rfl)) ?_; (with_reducible refine (wire_Split.calls k (fun k_ => k_ < w.heap.size) _ _ y158 a1 t162 _ ?side1 A3.out).mono ?_); (case side1 => exact Kd.V_mk HC161.out (Kd.F_below (Kd.C_F (Kd.heap_int .u8) HR161.out) (by repeat (first | (with_reducible first | exact HB.out | apply below_alloc | apply pw_below_drewN | apply below_drew1) | exact HB.out)))); rintro e w8 ⟨v163, rfl, ho0, hb⟩; refine ⟨_, rfl, ?_⟩; have n0_ := Aside0.mk (Kd.N_lower (Kd.N_mono (ok' := fun k_ => True) ho0 (fun k_ hk_ => trivial)) (below_size (by repeat (first | (with_reducible first | exact HB.out | apply below_alloc | apply pw_below_drewN | apply below_drew1) | exact HB.out)))); have n1_ := Aside0.mk (below_step (by repeat (first | (with_reducible first | exact HB.out | apply below_alloc | apply pw_below_drewN | apply below_drew1) | exact HB.out)) hb); clear HB; have HO164 := n0_; have HB := n1_; clear n0_ n1_; (try clear hb); (try clear hb2); (try clear hk); (try clear hi); (try clear ho0)) | ((with_reducible refine gate_callee (f := 22) rfl ?_); refine goesL_ (some 16) rfl rfl Tryd.func22 (by kernel_rfl) rfl #[.slice A0 y158.length c0, .int .i64 a1] rfl (by (try simp only [List.map_toArray, List.map_cons, List.map_nil]); first | done | rfl | (simp only [List.length_drop, List.length_take]; rfl)) ?_; (with_reducible refine (rampartref03_Split.calls k (fun k_ => k_ < w.heap.size) _ _ y158 a1 t165 _ ?side1 A4.out).mono ?_); (case side1 => exact Kd.V_mk HC161.out (Kd.F_below (Kd.C_F (Kd.heap_int .u8) HR161.out) (by repeat (first | (with_reducible first | exact HB.out | apply below_alloc | apply pw_below_drewN | apply below_drew1) | exact HB.out)))); rintro e w9 ⟨v166, rfl, ho0, hb⟩; refine ⟨_, rfl, ?_⟩; have n0_ := Aside0.mk (Kd.N_elder' (by (with_reducible repeat (first | apply Kd.N_alloc | apply Kd.N_drewN | apply Kd.N_drew)); exact HO164.out) (Kd.N_base ho0) hb); have n1_ := Aside0.mk (Kd.N_lower (Kd.N_mono (ok' := fun k_ => some k_ ≠ (v163 : Value).ownBlock) ho0 (fun k_ hk_ => Or.elim hk_ (fun hs_ => fun e_ => Nat.not_le.2 hs_ (Kd.N_base HO164.out k_ e_.symm)) (fun hn_ => (Kd.fresh' (Kd.N_lt (by (with_reducible repeat (first | apply Kd.N_alloc | apply Kd.N_drewN | apply Kd.N_drew)); exact HO164.out)) k_ hn_)))) (below_size (by repeat (first | (with_reducible first | exact HB.out | apply below_alloc | apply pw_below_drewN | apply below_drew1) | exact HB.out)))); have n2_ := Aside0.mk (below_step (by repeat (first | (with_reducible first | exact HB.out | apply below_alloc | apply pw_below_drewN | apply below_drew1) | exact HB.out)) hb); clear HO164; clear HB; have HO164 := n0_; have HO167 := n1_; have HB := n2_; clear n0_ n1_ n2_; (try clear hb); (try clear hb2); (try clear hk); (try clear hi); (try clear ho0); obtain ⟨Ao10, co10, eo10⟩ := Kd.N_slice HO164.out; subst eo10; obtain ⟨Ao11, co11, eo11⟩ := Kd.N_slice HO167.out; subst eo11) | ((with_reducible refine gate_callee (f := 21) rfl ?_); refine goesL_ (some 17) rfl rfl Tryd.func21 (by kernel_rfl) rfl #[.slice Ao10 t162.length co10, .slice Ao11 t165.length co11] rfl (by (try simp only [List.map_toArray, List.map_cons, List.map_nil]); first | done | rfl | (simp only [List.length_drop, List.length_take]; rfl)) ?_; (with_reducible refine (rampartref03_SamePieces.calls k _ _ t162 _ _ t165 true _ ?side1 ?side2 ?side3 ?side4 A5.out).mono ?_); (case side1 => repeat (first | exact (Kd.N_reads' HO164.out).2.2 | (with_reducible refine Kd.C_alloc ?_ _) | (with_reducible refine Kd.C_drewN ?_ _) | (with_reducible refine Kd.C_drew ?_))); (case side2 => exact (Kd.N_reads' HO164.out).2.1); (case side3 => repeat (first | exact (Kd.N_reads' HO167.out).2.2 | (with_reducible refine Kd.C_alloc ?_ _) | (with_reducible refine Kd.C_drewN ?_ _) | (with_reducible refine Kd.C_drew ?_))); (case side4 => exact (Kd.N_reads' HO167.out).2.1); rintro e w' ⟨rfl, ⟨nd, rfl⟩⟩; refine ⟨_, rfl, ?_⟩))
    go_loopg [6, 7] k (fun kq v6 v7 w' => ∃ (x6_1 : List Int) (x7_1 : Int), v7 = .int .i64 x7_1 ∧ Aside0 (rampartlaw03_WireSplits.l0 kq y158 a1 t162 x6_1 x7_1 = some r) ∧ Aside0 (kq ≤ k) ∧ Aside0 (Kd.N (Kd.slice 5 (Kd.int .u8)) 27 w' w.heap.size (fun k_ => some k_ ≠ (v6 : Value).ownBlock) (.slice Ao10 t162.length co10) t162) ∧ Aside0 (Kd.R (Kd.int .u8) 5 w' w.heap.size (fun _ => True) v6 x6_1) ∧ Aside0 (Below w.heap.size w w'))
    case atStart => exact ⟨(([] : List Int)), (0), (by first | rfl | (simp; done) | (simp [*]; done)), H', ⟨Nat.le_refl _⟩, ⟨by (with_reducible repeat (first | apply Kd.N_alloc | apply Kd.N_drewN | apply Kd.N_drew)); exact Kd.N_mono HO164.out (fun _ hk => (by simp [Value.ownBlock]))⟩, ⟨by first | exact Kd.R_nil _ _ _ _ _ | exact Kd.N_nil _ _ _ _ _ | exact Kd.V_nil _ _ _ _ _ | exact Kd.Q_nil _ _ _ _ _ | exact Kd.S_nil _ _ _ _ _⟩, ⟨by repeat (first | (with_reducible first | exact HB.out | apply below_alloc | apply pw_below_drewN | apply below_drew1) | exact HB.out)⟩⟩
    case round =>
      clear H'
      try clear c1
      try clear c2
      try clear p2
      try clear c5
      try clear c6
      obtain ⟨x6_1, x7_1, rfl, HA, HK1, HO_5, HO_6, HB⟩ := hrel
      cases gk with
      | zero => exact absurd HA.out (by simp [rampartlaw03_WireSplits.l0])
      | succ k1 =>
        have H := HA.out
        clear HA
        simp only [rampartlaw03_WireSplits.l0] at H
        by_cases c12 : x7_1 < (t162.length : Int)
        · rw [if_pos c12] at H
          have c12b0 : decide (x7_1 < (t162.length : Int)) = true := decide_eq_true c12
          clear c12
          by_cases c13 : 0 ≤ x7_1
          · rw [if_pos c13] at H
            have c13b0 : decide (0 ≤ x7_1) = true := decide_eq_true c13
            clear c13
            by_cases c14 : x6_1.length + (rd_L2 t162 x7_1).length < 140737488355328
            · rw [if_pos c14] at H
              have LMc14 := Aside0.mk c14
              clear c14
              obtain ⟨y170, hy170⟩ : ∃ y_ : List Int, y_ = (x6_1 ++ (rd_L2 t162 x7_1)) := ⟨_, rfl⟩
              replace H : (rampartlaw03_WireSplits.l0 k1 y158 a1 t162 y170 (wrap64 (x7_1 + 1))) = some r := by first | (rw [hy170]; with_reducible exact H) | (have H2_ := (Option.bind_some _ _).symm.trans H; rw [hy170]; with_reducible exact H2_) | (have H2_ := (Option.bind_some _ _).symm.trans H; with_reducible exact H2_) | with_reducible exact H | (rw [hy170]; exact H) | exact H
              have Ny170 := Aside0.mk hy170
              clear hy170
              have H' := Aside0.mk H
              clear H
              have p169 : 0 ≤ (x7_1 : Int) := of_decide_eq_true (by first | (with_reducible assumption) | assumption)
              have q169 : x7_1 < (t162.length : Int) := of_decide_eq_true (by first | (with_reducible assumption) | assumption)
              obtain ⟨ad169, A169_0, c169_0, e169, hx169_0, hl169_0, hi169_0⟩ := at_L2 (Kd.N_reads' HO_5.out).2.2 x7_1 p169 q169
              cases e169
              obtain ⟨ce169, hce169, hMe169, hcc169⟩ := Kd.N_get HO_5.out [] x7_1 p169 (by first | exact q169 | exact of_decide_eq_true (by first | (with_reducible assumption) | assumption) | (have e_ := (Kd.N_reads' HO_5.out).1; omega))
              obtain ⟨ua169_0, uc169_0, rfl, ul169_0, ge169_0⟩ := Kd.FK_slice_open hMe169
              have hv169_0 := hcc169 0 _ rfl
              rw [Nat.add_zero, show ((Kd.slice 5 (Kd.int .u8))).sz = 1 from rfl, Nat.mul_one] at hv169_0
              replace hv169_0 := Option.some.inj (hv169_0.symm.trans hx169_0)
              injection hv169_0 with hva_ hvn_ hvc_
              rw [hva_] at ge169_0
              rw [hvc_] at ul169_0
              have HL169_0 := Aside0.mk (show Kd.V (Kd.int .u8) 5 _ w.heap.size _ _ (rd_L2 t162 x7_1) from Kd.V_mk ul169_0 ge169_0)
              clear hva_ hvn_ hvc_ ge169_0 ul169_0
              clear hcc169 hce169
              have HR169_0 := Aside0.mk hi169_0
              have HC169_0 := Aside0.mk hl169_0
              clear hi169_0 hl169_0
              replace p169 := eq_true p169
              replace q169 := eq_true q169
              go_wp2_with (first | ((with_reducible refine gate_builtin (b := .append) (xs := #[.tmp 25, .tmp 29]) rfl ?_); (try (refine gate_guard (by rfl) ?_; dsimp only)); at_builtin; refine Kd.R_append_rows (Kd.int .u8) (w0 := w) w.heap.size rfl (.tmp 25) (.tmp 29) 27 5 (.int .u8 0) 1 rfl Tryd.underlying27 info5 rfl (by decide) (by omega) u6 x6_1 (rd_L2 t162 x7_1) _ _ _ (fun _ => True) (fun _ => False) rfl rfl ?aO ?aR (fun _ _ h => h) (fun _ h => h.elim) ?aF ?aB ?aS ?aL ?_; (case aR => repeat (first | exact (by repeat (first | (with_reducible exact HR169_0.out) | (with_reducible refine Kd.C_alloc ?_ _) | (with_reducible refine Kd.C_drewN ?_ _) | (with_reducible refine Kd.C_drew ?_) | exact HR169_0.out)) | (with_reducible refine Kd.C_alloc ?_ _) | (with_reducible refine Kd.C_drewN ?_ _) | (with_reducible refine Kd.C_drew ?_))); (case aB => exact (by repeat (first | (with_reducible first | exact HB.out | apply below_alloc | apply pw_below_drewN | apply below_drew1) | exact HB.out))); (case aF => exact (fun _ _ => trivial)); (case aO => exact (by (with_reducible repeat (first | apply Kd.R_alloc | apply Kd.R_drewN | apply Kd.R_drew)); exact HO_6.out)); (case aS => exact (below_size (by repeat (first | (with_reducible first | exact HB.out | apply below_alloc | apply pw_below_drewN | apply below_drew1) | exact HB.out)))); (case aL => have := LMc14.out; omega); intro v171 w15 ho hb hg hat; rw [← Ny170.out] at ho; have n0_ := Aside0.mk (Kd.N_afterv (ok := (fun _ => True)) (by (with_reducible repeat (first | apply Kd.N_alloc | apply Kd.N_drewN | apply Kd.N_drew)); exact Kd.N_mono HO_5.out (fun _ hk => ⟨trivial, hk⟩)) hg hat); have n1_ := Aside0.mk (Kd.V_afterv (ok := (fun k_ => some k_ ≠ (.slice (some ad169) t162.length co10 : Value).ownBlock)) (by (with_reducible repeat (first | apply Kd.V_alloc | apply Kd.V_drewN | apply Kd.V_drew)); exact Kd.V_mono HL169_0.out (fun _ hk => ⟨hk.2, hk.1⟩)) hg hat); have n2_ := Aside0.mk (hb); have n3_ := Aside0.mk (ho); clear HO_5; clear HL169_0; clear HB; clear HO_6; have HO_5 := n0_; have HL169_0 := n1_; have HB := n2_; have HO172 := n3_; clear n0_ n1_ n2_ n3_; clear ho hb hg hat))
              go_roundg k1
              case measure => have := HK1.out; omega
              case rel => exact ⟨(y170), (wrap64 (x7_1 + 1)), (by first | rfl | (simp; done) | (simp [*]; done)), H', ⟨by have := HK1.out; omega⟩, ⟨by (with_reducible repeat (first | apply Kd.N_alloc | apply Kd.N_drewN | apply Kd.N_drew)); exact Kd.N_mono HO_5.out (fun _ hk => hk.2)⟩, ⟨by (with_reducible repeat (first | apply Kd.R_alloc | apply Kd.R_drewN | apply Kd.R_drew)); exact HO172.out⟩, ⟨by repeat (first | (with_reducible first | exact HB.out | apply below_alloc | apply pw_below_drewN | apply below_drew1) | exact HB.out)⟩⟩
            · rw [if_neg c14] at H
              exact absurd H (by simp)
          · rw [if_neg c13] at H
            exact absurd H (by simp)
        · rw [if_neg c12] at H
          have c12b0 : decide (x7_1 < (t162.length : Int)) = false := decide_eq_false c12
          clear c12
          have c16 : (x6_1.length : Int) ≤ (y158.length : Int) := by
            by_cases h_ : (x6_1.length : Int) ≤ (y158.length : Int)
            · exact h_
            · rw [if_neg h_, hr] at H; cases H
          rw [if_pos c16, if_pos (by omega)] at H
          have c19 : (strOfNums x6_1).toList = (strOfNums (y158.take ((x6_1.length : Int) : Int).toNat)).toList := by
            by_cases h_ : (strOfNums x6_1).toList = (strOfNums (y158.take ((x6_1.length : Int) : Int).toNat)).toList
            · exact h_
            · rw [if_neg h_, hr] at H; cases H
          rw [if_pos c19] at H
          have c20 : a1 < 30 ∨ (¬ a1 < 30 ∧ (x6_1.length : Int) = (y158.length : Int)) := by
            by_cases h_ : a1 < 30
            · exact .inl h_
            · rw [if_neg h_] at H
              by_cases h2_ : (x6_1.length : Int) = (y158.length : Int)
              · exact .inr ⟨h_, h2_⟩
              · rw [if_neg h2_, hr] at H; cases H
          clear H
          have c16b0 : decide ((x6_1.length : Int) ≤ (y158.length : Int)) = true := decide_eq_true c16
          have c16b1 : decide (x6_1.length ≤ y158.length) = true := decide_eq_true (Int.ofNat_le.mp c16)
          have c17b0 := eq_true (show (0 : Int) ≤ (x6_1.length : Int) by omega)
          have c18b0 := eq_true c16
          have c19b0 : ((strOfNums x6_1).toList == (strOfNums (y158.take ((x6_1.length : Int) : Int).toNat)).toList) = true := beq_iff_eq.mpr c19
          have c19b1 : ((strOfNums x6_1).toList != (strOfNums (y158.take ((x6_1.length : Int) : Int).toNat)).toList) = false := bne_eq_false_iff_eq.mpr c19
          obtain ⟨Ao23, co23, eo23⟩ := Kd.R_slice HO_6.out
          subst eo23
          have hPr := Q.PartsHeld.below HP0.out HB.out
          obtain ⟨i024, hi024, _, hsz24, _⟩ := info_parts info5
          obtain ⟨hcut24, hA24, hC24⟩ := print_take_of (P := Tryd.prog) (Value.int .u8) 0 27 5 .i64 Tryd.underlying27 hi024 hsz24 A0 c0 y158 (x6_1.length : Int) (by omega) c16 HC161.out
          have HR173 := Aside0.mk (Kd.C_of_reads (h1 := fun _ => rfl) (hA24 _ (Kd.reads_of_C HR161.out)))
          have hC6 := (Kd.R_reads' HO_6.out).2.2
          have hC7 := Kd.C_below HR173.out HB.out
          have hzl : (y158.take ((x6_1.length : Int)).toNat).length = x6_1.length := by rw [List.length_take]; omega
          rw [hzl] at hcut24 hC7
          obtain ⟨z, hz⟩ : ∃ z, z = y158.take ((x6_1.length : Int)).toNat := ⟨_, rfl⟩
          rw [← hz] at hC7 c19b0 c19b1 c19
          clear hA24 hC24 hi024 hsz24 hzl hz
          have HBr := Aside0.mk HB.out
          clear HO_5 HO_6 HO164 HO167 HR173 HR161
          obtain ⟨n6, hn6⟩ : ∃ n6, n6 = x6_1.length := ⟨_, rfl⟩
          rw [← hn6] at c16 c16b0 c16b1 c17b0 c18b0 c20 hcut24 hC6 hC7 ⊢
          clear hn6 c19
          rcases c20 with c20 | ⟨c20, c29⟩
          · have c20b0 : decide (a1 < 30) = true := decide_eq_true c20
            go_wp2
            have hcv25 : ∀ u : Q.GW wr, (convert 27 9 (.slice Ao23 n6 co23)).run Tryd.prog u.val = .ok (.string (strOfNums x6_1)) u.val := fun u => Kd.C_string Tryd.underlying27 Tryd.underlying5 Tryd.underlying9 (Kd.C_below hC6 u.property)
            have hcv26 : ∀ u : Q.GW wr, (convert 27 9 (.slice A0 n6 c0)).run Tryd.prog u.val = .ok (.string (strOfNums z)) u.val := fun u => Kd.C_string Tryd.underlying27 Tryd.underlying5 Tryd.underlying9 (Kd.C_below hC7 u.property)
            clear hC6 hC7
            refine Q.wp_region_quietB (by kernel_rfl) (by kernel_rfl) ?_
            repeat (first | go_big_quiet_step ((go_at_call 14; exact Q.quietB_of (Q.alive14 _ (Q.PartsHeld.below hPr (Q.GW.property _))))) | quiet_step ((go_at_call 14; exact Q.quietB_of (Q.alive14 _ (Q.PartsHeld.below hPr (Q.GW.property _))))))
            refine wpQuiet_nil ?_
            rintro w9 ⟨⟨wq_, hb9⟩, hwq_⟩
            obtain rfl : w9 = wq_ := hwq_
            have HB9 : Below w.heap.size w w9 := Q.vbelow_next hb9 HBr.out
            go_wp2
            go_ret
            exact ⟨by rw [hr]; rfl, HB9⟩
          · have c20b0 : decide (a1 < 30) = false := decide_eq_false c20
            obtain rfl : n6 = y158.length := by omega
            clear c29
            go_wp2
            have hcv25 : ∀ u : Q.GW wr, (convert 27 9 (.slice Ao23 y158.length co23)).run Tryd.prog u.val = .ok (.string (strOfNums x6_1)) u.val := fun u => Kd.C_string Tryd.underlying27 Tryd.underlying5 Tryd.underlying9 (Kd.C_below hC6 u.property)
            have hcv26 : ∀ u : Q.GW wr, (convert 27 9 (.slice A0 y158.length c0)).run Tryd.prog u.val = .ok (.string (strOfNums z)) u.val := fun u => Kd.C_string Tryd.underlying27 Tryd.underlying5 Tryd.underlying9 (Kd.C_below hC7 u.property)
            clear hC6 hC7
            refine Q.wp_region_quietB (by kernel_rfl) (by kernel_rfl) ?_
            repeat (first | go_big_quiet_step ((go_at_call 14; exact Q.quietB_of (Q.alive14 _ (Q.PartsHeld.below hPr (Q.GW.property _))))) | quiet_step ((go_at_call 14; exact Q.quietB_of (Q.alive14 _ (Q.PartsHeld.below hPr (Q.GW.property _))))))
            refine wpQuiet_nil ?_
            rintro w9 ⟨⟨wq_, hb9⟩, hwq_⟩
            obtain rfl : w9 = wq_ := hwq_
            have HB9 : Below w.heap.size w w9 := Q.vbelow_next hb9 HBr.out
            go_wp2
            go_ret
            exact ⟨by rw [hr]; rfl, HB9⟩
  · rw [if_neg c6, hr] at H; exact absurd (Option.some.inj H) (by simp)
end Go.Proofs.YtbbnaagfnpeloaaDoor.Q2
