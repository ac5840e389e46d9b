/- Layer 1: one relation behind another one. -/
import Derived.Test.YtbbmibabjffcaaaB7
import Derived.Deep.RegionHeld3
namespace Go.Proofs.Ytbbmibabjffcaaa.Q
open Go.RowKit Go.Shelf
attribute [local go_sem] Oper.semAt_some
set_option linter.unusedVariables false
set_option linter.unusedSimpArgs false
open Go.Proofs.YtbbmibabjffcaaaW.PrintWords Go.Proofs.YtbbmibabjffcaaaW.PrintMore
open Go.Proofs.Ytbbmibabjffcaaa.Bm
def thenK (M O : Nat → Nat) (k : Nat) : Nat → Nat := fun i => if i < k then orAll O (pfx (M i) 64) else M i
theorem thenK_zero (M O : Nat → Nat) : thenK M O 0 = M := by funext i; unfold thenK; rw [if_neg (by omega)]
theorem thenK_at (M O : Nat → Nat) (k : Nat) : thenK M O k k = M k := by unfold thenK; rw [if_neg (by omega)]
theorem thenK_step (M O : Nat → Nat) (k : Nat) : upd (thenK M O k) k (orAll O (pfx (M k) 64)) = thenK M O (k + 1) := by
  funext i
  unfold upd thenK
  by_cases h : i = k
  · subst h; rw [if_pos rfl, if_pos (by omega)]
  · rw [if_neg h]
    by_cases h' : i < k
    · rw [if_pos h', if_pos (by omega)]
    · rw [if_neg h', if_neg (by omega)]
def bits_Then.f (l m : List Int) : Option (List Int × Int) := if okUb l then (if okUb m then (if (ofR l).2.2 = 0 then (if (ofR m).2.2 = 0 then (if l.length = m.length then some (rowsI (thenK (rowsF l) (rowsF m) l.length) l.length, 0) else some ([], 1)) else some ([], (ofR m).2.2)) else some ([], (ofR l).2.2)) else none) else none
set_option maxRecDepth 100000 in
set_option maxHeartbeats 2000000 in
theorem bits_Then.calls (A0 : Option Addr) (c0 : Nat) (l0 : List Int) (A1 : Option Addr) (c1 : Nat) (l1 : List Int) (r1 : List Int) (r2 : Int) (w : World) (hr0 : Kd.C (Kd.int .u64) w A0 l0.length l0) (hc0 : l0.length ≤ c0) (hr1 : Kd.C (Kd.int .u64) w A1 l1.length l1) (hc1 : l1.length ≤ c1) (h : bits_Then.f l0 l1 = some (r1, r2)) :
    Calls Try.prog 35 #[.slice A0 l0.length c0, .slice A1 l1.length c1] w fun e w' => ∃ v0_ : Value, e = .returned (.tuple #[v0_, .int .i64 r2]) ∧ Kd.R (Kd.int .u64) 23 w' w.heap.size (fun _ => True) v0_ r1 ∧ Below w.heap.size w w' := by
  unfold bits_Then.f at h
  by_cases hk : okUb l0 = true
  case neg => rw [if_neg hk] at h; cases h
  by_cases hk1 : okUb l1 = true
  case neg => rw [if_pos hk, if_neg hk1] at h; cases h
  rw [if_pos hk, if_pos hk1] at h
  · skip
    have hlU := okU_of hk
    have hlU1 := okU_of hk1
    have hof := of_calls A0 c0 l0 hlU w hr0 hc0
    obtain ⟨R, n, e, hF⟩ : ∃ R n e, ofR l0 = (R, n, e) := ⟨_, _, _, rfl⟩
    obtain ⟨hn, hR, hE⟩ := ofR_ok hlU hF
    rw [hF] at h hof
    dsimp only at h hof
    have HO := Lib.hid hof
    have hof1 := fun W (hb : Below w.heap.size w W) => of_calls A1 c1 l1 hlU1 W (Kd.C_below hr1 hb) hc1
    obtain ⟨R1, n1, e1, hF1⟩ : ∃ R n e, ofR l1 = (R, n, e) := ⟨_, _, _, rfl⟩
    obtain ⟨hn1, hR1, hE1⟩ := ofR_ok hlU1 hF1
    rw [hF1] at h hof1
    dsimp only at h hof1
    have HO1 := Lib.hid hof1
    have hzM := zeroM
    clear hof hof1 hF hF1 hr0 hr1 hk hk1 hlU hlU1
    by_cases he : e = 0
    · subst he
      obtain ⟨rfl, rfl, -⟩ := hE rfl
      rw [if_pos rfl] at h
      have ht : ((0 : Int) != 0) = false := by decide
      clear hE
      go_enter Try.func35, Try.ntmps35
      go_upto_if 16 with (first | (go_at_call 42; refine (HO.out).mono ?_; rintro e_ w1 ⟨rfl, hb1⟩; have Z1 := MatAt.new w1 (fun _ => 0) 0) | (with_reducible refine wpList_store_mid rfl 62 (.tmp 6) (.tmp 13) rfl (w1.heap.size) 0 (mcells (rowsF l0) l0.length).toArray rfl rfl (by simpa [mcells_len] using (Z1).there) (by simpa using infoM _ _) (all_oneCell_toArray (mcells_one _ _)) ?_))
      have M2 := Z1.store (S := rowsF l0) (m := l0.length)
      have hB2 : Below w.heap.size w ((w1.alloc (.cells (mcells (fun _ => 0) 0).toArray 62)).setCells w1.heap.size 0 (mcells (rowsF l0) l0.length)) := below_setCells (vbelow_alloc' hb1 _) (by simp; exact Nat.le_succ_of_le hb1.size) hb1.size _ _
      obtain ⟨W2, hW2⟩ : ∃ W2, W2 = (w1.alloc (.cells (mcells (fun _ => 0) 0).toArray 62)).setCells w1.heap.size 0 (mcells (rowsF l0) l0.length) := ⟨_, rfl⟩
      rw [← hW2] at M2 hB2 ⊢
      clear hW2 Z1
      have hl2 := M2.lt
      go_upto_if 23 with (first | (go_at_call 42; refine (HO1.out _ hB2).mono ?_; rintro e_ w3 ⟨rfl, hb3⟩; have Z3 := MatAt.new w3 (fun _ => 0) 0) | (with_reducible refine wpList_store_mid rfl 62 (.tmp 8) (.tmp 21) rfl (w3.heap.size) 0 (mcells R1 n1).toArray rfl rfl (by simpa [mcells_len] using (Z3).there) (by simpa using infoM _ _) (all_oneCell_toArray (mcells_one _ _)) ?_))
      have hl3 := hb3.size
      have O4 := Z3.store (S := R1) (m := n1)
      have M4 : MatAt ((w3.alloc (.cells (mcells (fun _ => 0) 0).toArray 62)).setCells w3.heap.size 0 (mcells R1 n1)) w1.heap.size (rowsF l0) l0.length := MatAt.apart ((M2.below hb3).alloc _) (by omega) _ _
      have hB4 : Below w.heap.size w ((w3.alloc (.cells (mcells (fun _ => 0) 0).toArray 62)).setCells w3.heap.size 0 (mcells R1 n1)) := below_setCells (vbelow_alloc' (hB2.trans (hb3.mono hB2.size)) _) (by simp; have := hB2.size; omega) (by have := hB2.size; omega) _ _
      obtain ⟨W4, hW4⟩ : ∃ W4, W4 = (w3.alloc (.cells (mcells (fun _ => 0) 0).toArray 62)).setCells w3.heap.size 0 (mcells R1 n1) := ⟨_, rfl⟩
      rw [← hW4] at M4 O4 hB4 ⊢
      have hne : w1.heap.size ≠ w3.heap.size := by omega
      have hb1s := hb1.size
      clear hW4 Z3 M2 hzM hb3 HO HO1
      by_cases he1 : e1 = 0
      · subst he1
        obtain ⟨rfl, rfl, -⟩ := hE1 rfl
        rw [if_pos rfl] at h
        clear hE1
        have hnumM := M4.num
        have hnumO := O4.num
        by_cases hll : l0.length = l1.length
        · rw [if_pos hll] at h
          simp only [Option.some.injEq, Prod.mk.injEq] at h
          obtain ⟨rfl, rfl⟩ := h
          have hnn : (((l0.length : Nat) : Int) != ((l1.length : Nat) : Int)) = false := by simp [hll]
          have HLL := Lib.hid hll
          clear hll
          go_wp2_with fail
          simp only [show ((0 : Int) != 0) = false from rfl]
          go_loopw [35] (fun c wr => ∃ k : Nat, k ≤ l0.length ∧ c = .int .i64 k ∧ MatAt wr w1.heap.size (thenK (rowsF l0) (rowsF l1) k) l0.length ∧ MatAt wr w3.heap.size (rowsF l1) l1.length ∧ Below w.heap.size w wr) (fun c _ => l0.length - (intOf c).toNat)
          case atStart => exact ⟨0, by omega, rfl, by rw [thenK_zero]; exact M4, O4, hB4⟩
          case round =>
            clear M4 O4 hB4 hnumM hnumO hB2
            obtain ⟨k, hk, rfl, hM, hO, hB⟩ := hrel
            by_cases hlt : k < l0.length
            · have hk1 : decide ((k : Int) < ((l0.length : Nat) : Int)) = true := decide_eq_true (by omega)
              have hk0 : (0 : Int) ≤ (k : Int) := by omega
              have hk64 : (k : Int) < 64 := by omega
              have hcell := hM.cell k (by omega)
              rw [thenK_at] at hcell
              have hfz := hM.frozen k
              have hth := fun W => callsIn_wide.1 (through_in Fence.wide 6 trivial trivial trivial trivial trivial rfl (by decide) (rowsF l1) hR1 l1.length (rowsF l0 k) (hR k) W)
              have HT := Lib.hid hth
              clear hth
              go_wp2_with fail
              refine wp_region_held_drew (S := fun W_ => W_.rangeAt w3.heap.size 0 (mcells (rowsF l1) l1.length)) (by kernel_rfl) hO.range (fun hHeld => ?_)
              refine wpAnyH_take (i := 0) (v := ?_) rfl (by kernel_rfl) (by kernel_rfl) (by kernel_rfl) (fun _ _ _ h => h) (Or.inl ⟨by rfl, ?_⟩) hHeld ?_
              rotate_left
              · (intro W_ hS_; go_simp; try with_reducible rfl)
              try simp only [Act.put, List.getElem_toArray, List.getElem_cons_zero, List.getElem_cons_succ, List.setIfInBounds_toArray, List.set_cons_zero, List.set_cons_succ]
              refine wpAnyH_take (i := 1) rfl (by kernel_rfl) (by kernel_rfl) (by kernel_rfl) (fun _ _ _ h => h) (yieldsIf_load_mid (by rfl) 62 (.tmp 8) rfl (w3.heap.size) 0 rfl (mcells (rowsF l1) l1.length) _ (fun _ h => h) isM isMrow (infoM _ _)) hHeld ?_
              try simp only [Act.put, List.getElem_toArray, List.getElem_cons_zero, List.getElem_cons_succ, List.setIfInBounds_toArray, List.set_cons_zero, List.set_cons_succ]
              refine wpAnyH_take (i := 2) (v := ?_) rfl (by kernel_rfl) (by kernel_rfl) (by kernel_rfl) (fun _ _ _ h => h) (Or.inl ⟨by rfl, ?_⟩) hHeld ?_
              rotate_left
              · (intro W_ hS_; go_simp; try with_reducible rfl)
              try simp only [Act.put, List.getElem_toArray, List.getElem_cons_zero, List.getElem_cons_succ, List.setIfInBounds_toArray, List.set_cons_zero, List.set_cons_succ]
              refine wpAnyH_take (i := 3) (v := ?_) rfl (by kernel_rfl) (by kernel_rfl) (by kernel_rfl) (fun _ _ _ h => h) (Or.inl ⟨by rfl, ?_⟩) hHeld ?_
              rotate_left
              · (intro W_ hS_; go_simp; try with_reducible rfl)
              try simp only [Act.put, List.getElem_toArray, List.getElem_cons_zero, List.getElem_cons_succ, List.setIfInBounds_toArray, List.set_cons_zero, List.set_cons_succ]
              refine wpAnyH_take (i := 4) (v := ?_) rfl (by kernel_rfl) (by kernel_rfl) (by kernel_rfl) (fun _ _ _ h => h) (Or.inl ⟨by rfl, ?_⟩) hHeld ?_
              rotate_left
              · (intro W_ hS_; go_simp; try with_reducible rfl)
              try simp only [Act.put, List.getElem_toArray, List.getElem_cons_zero, List.getElem_cons_succ, List.setIfInBounds_toArray, List.set_cons_zero, List.set_cons_succ]
              refine wpAnyH_take (i := 7) (v := ?_) rfl (by kernel_rfl) (by kernel_rfl) (by kernel_rfl) (fun _ _ _ h => h) (Or.inl ⟨by rfl, ?_⟩) hHeld ?_
              rotate_left
              · (intro W_ hS_; go_simp; try with_reducible rfl)
              try simp only [Act.put, List.getElem_toArray, List.getElem_cons_zero, List.getElem_cons_succ, List.setIfInBounds_toArray, List.set_cons_zero, List.set_cons_succ]
              refine wpAnyH_ready (rs := [5]) (by kernel_rfl) (by simp) ?_
              refine AllReadyH.cons (o := _) rfl (fun K hK => ?_) AllReadyH.nil
              go_simp
              refine hK.out _ _ hHeld (fun hHeld => ?_)
              clear hK K
              try simp only [Act.put, List.getElem_toArray, List.getElem_cons_zero, List.getElem_cons_succ, List.setIfInBounds_toArray, List.set_cons_zero, List.set_cons_succ]
              refine wpAnyH_ready (rs := [6]) (by kernel_rfl) (by simp) ?_
              refine AllReadyH.cons (o := _) rfl (fun K hK => ?_) AllReadyH.nil
              go_simp
              refine (HT.out _).mono ?_
              rintro e_ w9 ⟨rfl, hb9⟩
              have hM9 := (MatAt.drew hM).below hb9
              have hO9 := (MatAt.drew hO).below hb9
              have hB9 : Below w.heap.size w w9 := (hB.drew).trans (hb9.mono hB.size)
              have c9 := hM9.cell k (by omega)
              have f9 := hM9.frozen k
              refine hK.out _ _ hO9.range (fun hHeld => ?_)
              clear hK K
              try simp only [Act.put, List.getElem_toArray, List.getElem_cons_zero, List.getElem_cons_succ, List.setIfInBounds_toArray, List.set_cons_zero, List.set_cons_succ]
              refine wpAnyH_take (i := 8) (v := ?_) rfl (by kernel_rfl) (by kernel_rfl) (by kernel_rfl) (fun _ _ _ h => h) (Or.inl ⟨by rfl, ?_⟩) hHeld ?_
              rotate_left
              · (intro W_ hS_; go_simp; try with_reducible rfl)
              try simp only [Act.put, List.getElem_toArray, List.getElem_cons_zero, List.getElem_cons_succ, List.setIfInBounds_toArray, List.set_cons_zero, List.set_cons_succ]
              refine wpAnyH_ready (rs := [9]) (by kernel_rfl) (by simp) ?_
              refine AllReadyH.cons (o := _) rfl (fun K hK => ?_) AllReadyH.nil
              go_simp
              refine hK.out _ _ (hO9.other (by omega) _ _).range (fun hHeld => ?_)
              clear hK K
              try simp only [Act.put, List.getElem_toArray, List.getElem_cons_zero, List.getElem_cons_succ, List.setIfInBounds_toArray, List.set_cons_zero, List.set_cons_succ]
              refine wpAnyH_done (by kernel_rfl) ?_ _
              have M2 := hM9.set k (orAll (rowsF l1) (pfx (rowsF l0 k) 64)) (by omega)
              rw [thenK_step] at M2
              have O2 := hO9.other (B := w1.heap.size) (by omega) k (.int .u64 ((orAll (rowsF l1) (pfx (rowsF l0 k) 64) : Nat) : Int))
              have B2 := hB9.setCell (p := ⟨w1.heap.size, k, none⟩) hb1s (.int .u64 ((orAll (rowsF l1) (pfx (rowsF l0 k) 64) : Nat) : Int))
              go_wp2
              go_roundw
              case rel => exact ⟨k + 1, by omega, by go_num, M2, O2, B2⟩
              case measure => simp [intOf]; omega
            · have hkn : k = l0.length := by omega
              subst hkn
              have hk1 : decide (((l0.length : Nat) : Int) < ((l0.length : Nat) : Int)) = false := by simp
              have hli := fun W => mlist (thenK (rowsF l0) (rowsF l1) l0.length) l0.length hn W
              have HL := Lib.hid hli
              clear hli
              go_wp2_with (first | (with_reducible refine wpList_load_mid rfl 62 (.tmp 6) rfl (w1.heap.size) 0 rfl (mcells (thenK (rowsF l0) (rowsF l1) l0.length) l0.length) _ (hM).range isM isMrow (infoM _ _) ?_) | (go_at_call 44; refine (HL.out _).mono ?_; rintro e_ w9 ⟨v9, rfl, hv9, hb9⟩))
              go_ret2
              exact ⟨v9, rfl, Kd.R_lower hv9 hB.size, hB.trans (hb9.mono hB.size)⟩
        · rw [if_neg hll] at h
          simp only [Option.some.injEq, Prod.mk.injEq] at h
          obtain ⟨rfl, rfl⟩ := h
          have hnn : (((l0.length : Nat) : Int) != ((l1.length : Nat) : Int)) = true := by simp; omega
          clear hll
          go_wp2_with fail
          go_ret2
          exact ⟨_, rfl, Kd.R_nil _ _ _ _ _, hB4⟩
      · rw [if_neg he1] at h
        simp only [Option.some.injEq, Prod.mk.injEq] at h
        obtain ⟨rfl, rfl⟩ := h
        have ht1 : (e1 != 0) = true := by simpa using he1
        clear he1 hE1
        go_wp2_with fail
        go_ret2
        exact ⟨_, rfl, Kd.R_nil _ _ _ _ _, hB4⟩
    · rw [if_neg he] at h
      simp only [Option.some.injEq, Prod.mk.injEq] at h
      obtain ⟨rfl, rfl⟩ := h
      have ht : (e != 0) = true := by simpa using he
      clear he hE hE1 HO1
      go_enter Try.func35, Try.ntmps35
      go_wp2_with (first | (go_at_call 42; refine (HO.out).mono ?_; rintro e_ w1 ⟨rfl, hb1⟩; have Z1 := MatAt.new w1 (fun _ => 0) 0) | (with_reducible refine wpList_store_mid rfl 62 (.tmp 6) (.tmp 13) rfl (w1.heap.size) 0 (mcells R n).toArray rfl rfl (by simpa [mcells_len] using (Z1).there) (by simpa using infoM _ _) (all_oneCell_toArray (mcells_one _ _)) ?_))
      go_ret2
      exact ⟨_, rfl, Kd.R_nil _ _ _ _ _, below_setCells (vbelow_alloc' hb1 _) (by simp; exact Nat.le_succ_of_le hb1.size) hb1.size _ _⟩
end Go.Proofs.Ytbbmibabjffcaaa.Q
