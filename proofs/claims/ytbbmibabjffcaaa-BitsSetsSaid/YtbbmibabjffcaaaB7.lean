/- Layer 1: Check, Closure, Reach. -/
import Derived.Test.YtbbmibabjffcaaaB6
namespace Go.Proofs.Ytbbmibabjffcaaa.Q
open Go.RowKit Go.Shelf
attribute [local go_sem] Oper.semAt_some
set_option linter.unusedVariables false
set_option linter.unusedSimpArgs false
open Go.Proofs.YtbbmibabjffcaaaW.PrintWords Go.Proofs.YtbbmibabjffcaaaW.PrintMore
open Go.Proofs.Ytbbmibabjffcaaa.Bm
theorem ofR_ok {l : List Int} (hl : okU l) {R : Nat → Nat} {n : Nat} {e : Int} (h : ofR l = (R, n, e)) : n ≤ 64 ∧ (∀ i, R i < 2 ^ 64) ∧ (e = 0 → n = l.length ∧ R = rowsF l ∧ okRel (rowsF l) l.length = true) := by
  unfold ofR at h
  split at h
  · cases h
    exact ⟨by omega, fun _ => Nat.two_pow_pos 64, fun h => by cases h⟩
  · split at h
    · rename_i h1 h2
      cases h
      exact ⟨by omega, rowsF_lt hl, fun _ => ⟨rfl, rfl, h2⟩⟩
    · cases h
      exact ⟨by omega, fun _ => Nat.two_pow_pos 64, fun h => by cases h⟩
def okUb (l : List Int) : Bool := l.all fun x => decide (0 ≤ x) && decide (x < 18446744073709551616)
theorem okU_of {l : List Int} (h : okUb l = true) : okU l := fun x hx => by
  have := List.all_eq_true.1 h x hx
  simpa using this
/-- A checked row, and its relation. -/
def bits_Check.f (l : List Int) : Option Int := if okUb l then some (ofR l).2.2 else none
def bits_Closure.f (l : List Int) : Option (List Int × Int) := if okUb l then (if (ofR l).2.2 = 0 then some (rowsI (wouter (rowsF l) l.length l.length) l.length, 0) else some ([], (ofR l).2.2)) else none
def bits_Reach.f (l : List Int) (i : Int) : Option (Int × Int) := if okUb l then (if (ofR l).2.2 = 0 then (if 0 ≤ i ∧ i < l.length then some (((wouter (rowsF l) l.length l.length i.toNat : Nat) : Int), 0) else some (0, 5)) else some (0, (ofR l).2.2)) else none
theorem vbelow_alloc' {w W : World} (h : Below w.heap.size w W) (o : Obj) : Below w.heap.size w (W.alloc o) := h.alloc h.size o
theorem vret_t2 {a b c d : Value} (h1 : a = c) (h2 : b = d) : Ending.returned (.tuple #[a, b]) = .returned (.tuple #[c, d]) := by rw [h1, h2]
set_option maxRecDepth 100000 in
set_option maxHeartbeats 2000000 in
theorem bits_Check.calls (A0 : Option Addr) (c0 : Nat) (l0 : List Int) (r : Int) (w : World) (hr0 : Kd.C (Kd.int .u64) w A0 l0.length l0) (hc0 : l0.length ≤ c0) (h : bits_Check.f l0 = some r) :
    Calls Try.prog 33 #[.slice A0 l0.length c0] w fun e w' => e = .returned (.int .i64 r) ∧ Below w.heap.size w w' := by
  unfold bits_Check.f at h
  split at h
  next hk =>
    have hof := of_calls A0 c0 l0 (okU_of hk) w hr0 hc0
    obtain ⟨R, n, e, hF⟩ : ∃ R n e, ofR l0 = (R, n, e) := ⟨_, _, _, rfl⟩
    rw [hF] at h hof
    dsimp only at h hof
    have HO := Lib.hid hof
    obtain rfl : e = r := by simpa using h
    have hzM := zeroM
    clear hof hF hr0 h hk
    go_enter Try.func33, Try.ntmps33
    go_wp2_with (first | (go_at_call 42; refine (HO.out).mono ?_; rintro e_ w1 ⟨rfl, hb1⟩; have Z1 := MatAt.new w1 (fun _ => 0) 0) | (with_reducible refine wpList_store_mid rfl 62 (.tmp 3) (.tmp 8) rfl (w1.heap.size) 0 (mcells R n).toArray rfl rfl (by simpa [mcells_len] using (Z1).there) (by simpa using infoM _ _) (all_oneCell_toArray (mcells_one _ _)) ?_))
    go_ret
    exact ⟨rfl, below_setCells (vbelow_alloc' hb1 _) (by simp; exact Nat.le_succ_of_le hb1.size) hb1.size _ _⟩
  next => cases h
set_option maxRecDepth 100000 in
set_option maxHeartbeats 2000000 in
theorem bits_Closure.calls (A0 : Option Addr) (c0 : Nat) (l0 : List Int) (r1 : List Int) (r2 : Int) (w : World) (hr0 : Kd.C (Kd.int .u64) w A0 l0.length l0) (hc0 : l0.length ≤ c0) (h : bits_Closure.f l0 = some (r1, r2)) :
    Calls Try.prog 22 #[.slice A0 l0.length c0] w fun e w' => ∃ v0_ : Value, e = .returned (.tuple #[v0_, .int .i64 r2]) ∧ Kd.R (Kd.int .u64) 23 w' w.heap.size (fun _ => True) v0_ r1 ∧ Below w.heap.size w w' := by
  unfold bits_Closure.f at h
  split at h
  next hk =>
    have hlU := okU_of hk
    have hof := of_calls A0 c0 l0 hlU w hr0 hc0
    obtain ⟨R, n, e, hF⟩ : ∃ R n e, ofR l0 = (R, n, e) := ⟨_, _, _, rfl⟩
    obtain ⟨hn, hR, hE⟩ := ofR_ok hlU hF
    rw [hF] at h hof
    dsimp only at h hof
    have HO := Lib.hid hof
    have hzM := zeroM
    clear hof hF hr0 hk hlU
    by_cases he : e = 0
    · subst he
      obtain ⟨rfl, rfl, -⟩ := hE rfl
      rw [if_pos rfl] at h
      simp only [Option.some.injEq, Prod.mk.injEq] at h
      obtain ⟨rfl, rfl⟩ := h
      have hcl := fun W => closed (rowsF l0) hR l0.length hn W
      have hli := fun W => mlist (wouter (rowsF l0) l0.length l0.length) l0.length hn W
      have HC := Lib.hid hcl
      have HL := Lib.hid hli
      have ht : ((0 : Int) != 0) = false := by decide
      clear hcl hli hR hE hn
      go_enter Try.func22, Try.ntmps22
      go_upto_if 12 with (first | (go_at_call 42; refine (HO.out).mono ?_; rintro e_ w1 ⟨rfl, hb1⟩; have Z1 := MatAt.new w1 (fun _ => 0) 0) | (with_reducible refine wpList_store_mid rfl 62 (.tmp 4) (.tmp 9) rfl (w1.heap.size) 0 (mcells (rowsF l0) l0.length).toArray rfl rfl (by simpa [mcells_len] using (Z1).there) (by simpa using infoM _ _) (all_oneCell_toArray (mcells_one _ _)) ?_))
      have M2 := Z1.store (S := rowsF l0) (m := l0.length)
      have hB2 : Below w.heap.size w ((w1.alloc (.cells (mcells (fun _ => 0) 0).toArray 62)).setCells w1.heap.size 0 (mcells (rowsF l0) l0.length)) := below_setCells (vbelow_alloc' hb1 _) (by simp; exact Nat.le_succ_of_le hb1.size) hb1.size _ _
      obtain ⟨W2, hW2⟩ : ∃ W2, W2 = (w1.alloc (.cells (mcells (fun _ => 0) 0).toArray 62)).setCells w1.heap.size 0 (mcells (rowsF l0) l0.length) := ⟨_, rfl⟩
      rw [← hW2] at M2 hB2 ⊢
      clear hW2 Z1 hzM
      go_wp2_with (first | (with_reducible refine wpList_load_mid rfl 62 (.tmp 4) rfl (w1.heap.size) 0 rfl (mcells (rowsF l0) l0.length) _ (M2).range isM isMrow (infoM _ _) ?_) | (go_at_call 43; refine (HC.out _).mono ?_; rintro e_ w3 ⟨rfl, hb3⟩) | (go_at_call 44; refine (HL.out _).mono ?_; rintro e_ w4 ⟨v4, rfl, hv4, hb4⟩))
      go_ret2
      refine ⟨v4, rfl, Kd.R_lower hv4 ?_, ?_⟩
      · exact Nat.le_trans hB2.size hb3.size
      · exact (hB2.trans (hb3.mono hB2.size)).trans (hb4.mono (Nat.le_trans hB2.size hb3.size))
    · rw [if_neg he] at h
      simp only [Option.some.injEq, Prod.mk.injEq] at h
      obtain ⟨rfl, rfl⟩ := h
      have ht : (e != 0) = true := by simpa using he
      clear he hE
      go_enter Try.func22, Try.ntmps22
      go_wp2_with (first | (go_at_call 42; refine (HO.out).mono ?_; rintro e_ w1 ⟨rfl, hb1⟩; have Z1 := MatAt.new w1 (fun _ => 0) 0) | (with_reducible refine wpList_store_mid rfl 62 (.tmp 4) (.tmp 9) rfl (w1.heap.size) 0 (mcells R n).toArray rfl rfl (by simpa [mcells_len] using (Z1).there) (by simpa using infoM _ _) (all_oneCell_toArray (mcells_one _ _)) ?_))
      go_ret2
      exact ⟨_, rfl, Kd.R_nil _ _ _ _ _, below_setCells (vbelow_alloc' hb1 _) (by simp; exact Nat.le_succ_of_le hb1.size) hb1.size _ _⟩
  next => cases h
theorem sizeA (W : World) : (sizeOf 60).run Try.prog W = .ok 64 W := by
  have h : (Try.prog.info? 60).map (·.size) = some 64 := by kernel_rfl
  cases hq : Try.prog.info? 60 with
  | none => simp [hq] at h
  | some i =>
    have hs : i.size = 64 := by simpa [hq] using h
    simp [sizeOf, typeInfo, hq, hs]
theorem aggA (W : World) : (isAgg 60).run Try.prog W = .ok true W := by
  unfold isAgg
  rw [Sem.run_bind, run_underlying arrU W]
  simp [Result.andThen]
theorem aggU (W : World) : (isAgg 23).run Try.prog W = .ok false W := by
  unfold isAgg
  rw [Sem.run_bind, run_underlying Try.underlying23 W]
  simp [Result.andThen]
theorem field_rows (R : Nat → Nat) (n : Nat) (W : World) : (Instr.field 62 (.agg (mcells R n).toArray) 0).run Try.prog W = .ok (.agg ((mcells R n).take 64).toArray) W := by
  have hex : (match Try.prog.underlying 62 with | some (.struct _) => true | _ => false) = true := by kernel_rfl
  obtain ⟨fs, hfs⟩ : ∃ fs, Try.prog.underlying 62 = some (.struct fs) := by
    revert hex
    cases Try.prog.underlying 62 with
    | none => exact fun h => by cases h
    | some d => cases d <;> first | exact fun _ => ⟨_, rfl⟩ | exact fun h => by cases h
  have h0 : (match Try.prog.underlying 62 with | some (.struct fs) => (fs[0]?).map fun f => (f.type, f.offset) | _ => none) = some (60, 0) := by kernel_rfl
  rw [hfs] at h0
  obtain ⟨f, hf, he⟩ := Option.map_eq_some_iff.1 h0
  simp only [Prod.mk.injEq] at he
  simp [Instr.field, run_underlying hfs, hf, he.1, he.2, part, aggA, sizeA, Sem.run_bind, asAgg, Result.andThen]
theorem index_rows (R : Nat → Nat) (n i : Nat) (hi : i < 64) (W : World) : (Instr.index 60 (.agg ((mcells R n).take 64).toArray) (.int .i64 ((i : Nat) : Int))).run Try.prog W = .ok (.int .u64 ((R i : Nat) : Int)) W := by
  have hc : ((mcells R n).take 64).toArray[i]? = some (.int .u64 ((R i : Nat) : Int)) := by
    rw [List.getElem?_toArray, List.getElem?_take, if_pos hi, mcells_at R n i hi]
  have h1 : (0 : Int) ≤ (i : Int) ∧ (i : Int) < ((64 : Nat) : Int) := by omega
  simp only [Instr.index, asIntOf, Sem.run_bind, Sem.run_pure, Result.andThen_ok, run_underlying arrU]
  rw [if_pos h1]
  simp only [part, aggU, sizeU, Sem.run_bind, Result.andThen_ok, Int.toNat_natCast, Nat.mul_one, hc]
  rfl
set_option maxRecDepth 100000 in
set_option maxHeartbeats 2000000 in
theorem bits_Reach.calls (A0 : Option Addr) (c0 : Nat) (l0 : List Int) (a1 : Int) (r1 r2 : Int) (w : World) (hr0 : Kd.C (Kd.int .u64) w A0 l0.length l0) (hc0 : l0.length ≤ c0) (h : bits_Reach.f l0 a1 = some (r1, r2)) :
    Calls Try.prog 24 #[.slice A0 l0.length c0, .int .i64 a1] w fun e w' => e = .returned (.tuple #[.int .u64 r1, .int .i64 r2]) ∧ Below w.heap.size w w' := by
  unfold bits_Reach.f at h
  split at h
  next hk =>
    have hlU := okU_of hk
    have hof := of_calls A0 c0 l0 hlU w hr0 hc0
    obtain ⟨R, n, e, hF⟩ : ∃ R n e, ofR l0 = (R, n, e) := ⟨_, _, _, rfl⟩
    obtain ⟨hn, hR, hE⟩ := ofR_ok hlU hF
    rw [hF] at h hof
    dsimp only at h hof
    have HO := Lib.hid hof
    have hzM := zeroM
    clear hof hF hr0 hk hlU
    by_cases he : e = 0
    · subst he
      obtain ⟨rfl, rfl, -⟩ := hE rfl
      rw [if_pos rfl] at h
      have ht : ((0 : Int) != 0) = false := by decide
      by_cases hi : 0 ≤ a1 ∧ a1 < l0.length
      · rw [if_pos hi] at h
        simp only [Option.some.injEq, Prod.mk.injEq] at h
        obtain ⟨rfl, rfl⟩ := h
        obtain ⟨hi0, hi1⟩ := hi
        obtain ⟨i, rfl⟩ := Int.eq_ofNat_of_zero_le hi0
        have hi64 : (i : Int) < 64 := by omega
        have hcl := fun W => closed (rowsF l0) hR l0.length hn W
        have HC := Lib.hid hcl
        have ht1 : decide ((i : Int) < 0) = false := decide_eq_false (by omega)
        have ht2 : decide ((i : Int) ≥ ((l0.length : Nat) : Int)) = false := decide_eq_false (by omega)
        clear hcl hR hE
        go_enter Try.func24, Try.ntmps24
        go_upto_if 13 with (first | (go_at_call 42; refine (HO.out).mono ?_; rintro e_ w1 ⟨rfl, hb1⟩; have Z1 := MatAt.new w1 (fun _ => 0) 0) | (with_reducible refine wpList_store_mid rfl 62 (.tmp 6) (.tmp 11) rfl (w1.heap.size) 0 (mcells (rowsF l0) l0.length).toArray rfl rfl (by simpa [mcells_len] using (Z1).there) (by simpa using infoM _ _) (all_oneCell_toArray (mcells_one _ _)) ?_))
        have M2 := Z1.store (S := rowsF l0) (m := l0.length)
        have hB2 : Below w.heap.size w ((w1.alloc (.cells (mcells (fun _ => 0) 0).toArray 62)).setCells w1.heap.size 0 (mcells (rowsF l0) l0.length)) := below_setCells (vbelow_alloc' hb1 _) (by simp; exact Nat.le_succ_of_le hb1.size) hb1.size _ _
        obtain ⟨W2, hW2⟩ : ∃ W2, W2 = (w1.alloc (.cells (mcells (fun _ => 0) 0).toArray 62)).setCells w1.heap.size 0 (mcells (rowsF l0) l0.length) := ⟨_, rfl⟩
        rw [← hW2] at M2 hB2 ⊢
        clear hW2 Z1 hzM
        have hnum := M2.num
        have hfr := field_rows (wouter (rowsF l0) l0.length l0.length) l0.length
        have hix := index_rows (wouter (rowsF l0) l0.length l0.length) l0.length i (by omega)
        go_wp2_with (first | (with_reducible refine wpList_load_mid rfl 62 (.tmp 6) rfl (w1.heap.size) 0 rfl (mcells (rowsF l0) l0.length) _ (M2).range isM isMrow (infoM _ _) ?_) | (go_at_call 43; refine (HC.out _).mono ?_; rintro e_ w3 ⟨rfl, hb3⟩))
        go_ret2
        exact ⟨rfl, hB2.trans (hb3.mono hB2.size)⟩
      · rw [if_neg hi] at h
        simp only [Option.some.injEq, Prod.mk.injEq] at h
        obtain ⟨rfl, rfl⟩ := h
        clear hR hE
        by_cases hneg : a1 < 0
        · have ht1 : decide (a1 < 0) = true := decide_eq_true hneg
          clear hi hneg
          go_enter Try.func24, Try.ntmps24
          go_wp2_with (first | (go_at_call 42; refine (HO.out).mono ?_; rintro e_ w1 ⟨rfl, hb1⟩; have Z1 := MatAt.new w1 (fun _ => 0) 0) | (with_reducible refine wpList_store_mid rfl 62 (.tmp 6) (.tmp 11) rfl (w1.heap.size) 0 (mcells (rowsF l0) l0.length).toArray rfl rfl (by simpa [mcells_len] using (Z1).there) (by simpa using infoM _ _) (all_oneCell_toArray (mcells_one _ _)) ?_))
          go_ret2
          exact ⟨rfl, below_setCells (vbelow_alloc' hb1 _) (by simp; exact Nat.le_succ_of_le hb1.size) hb1.size _ _⟩
        · have ht1 : decide (a1 < 0) = false := decide_eq_false hneg
          have ht2 : decide (a1 ≥ ((l0.length : Nat) : Int)) = true := decide_eq_true (by omega)
          clear hi
          go_enter Try.func24, Try.ntmps24
          go_upto_if 13 with (first | (go_at_call 42; refine (HO.out).mono ?_; rintro e_ w1 ⟨rfl, hb1⟩; have Z1 := MatAt.new w1 (fun _ => 0) 0) | (with_reducible refine wpList_store_mid rfl 62 (.tmp 6) (.tmp 11) rfl (w1.heap.size) 0 (mcells (rowsF l0) l0.length).toArray rfl rfl (by simpa [mcells_len] using (Z1).there) (by simpa using infoM _ _) (all_oneCell_toArray (mcells_one _ _)) ?_))
          have M2 := Z1.store (S := rowsF l0) (m := l0.length)
          have hB2 : Below w.heap.size w ((w1.alloc (.cells (mcells (fun _ => 0) 0).toArray 62)).setCells w1.heap.size 0 (mcells (rowsF l0) l0.length)) := below_setCells (vbelow_alloc' hb1 _) (by simp; exact Nat.le_succ_of_le hb1.size) hb1.size _ _
          obtain ⟨W2, hW2⟩ : ∃ W2, W2 = (w1.alloc (.cells (mcells (fun _ => 0) 0).toArray 62)).setCells w1.heap.size 0 (mcells (rowsF l0) l0.length) := ⟨_, rfl⟩
          rw [← hW2] at M2 hB2 ⊢
          clear hW2 Z1 hzM
          have hnum := M2.num
          go_wp2_with fail
          go_ret2
          exact ⟨rfl, hB2⟩
    · rw [if_neg he] at h
      simp only [Option.some.injEq, Prod.mk.injEq] at h
      obtain ⟨rfl, rfl⟩ := h
      have ht : (e != 0) = true := by simpa using he
      clear he hE
      go_enter Try.func24, Try.ntmps24
      go_wp2_with (first | (go_at_call 42; refine (HO.out).mono ?_; rintro e_ w1 ⟨rfl, hb1⟩; have Z1 := MatAt.new w1 (fun _ => 0) 0) | (with_reducible refine wpList_store_mid rfl 62 (.tmp 6) (.tmp 11) rfl (w1.heap.size) 0 (mcells R n).toArray rfl rfl (by simpa [mcells_len] using (Z1).there) (by simpa using infoM _ _) (all_oneCell_toArray (mcells_one _ _)) ?_))
      go_ret2
      exact ⟨rfl, below_setCells (vbelow_alloc' hb1 _) (by simp; exact Nat.le_succ_of_le hb1.size) hb1.size _ _⟩
  next => cases h
end Go.Proofs.Ytbbmibabjffcaaa.Q
