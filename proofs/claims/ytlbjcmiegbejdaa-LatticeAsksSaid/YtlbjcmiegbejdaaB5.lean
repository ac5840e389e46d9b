/- Layer 1: a relation's closure, by way of each member. -/
import Derived.Test.YtlbjcmiegbejdaaB4
import Derived.Test.YtlbjcmiegbejdaaM1
import Derived.LoopTactic
namespace Go.Proofs.Ytlbjcmiegbejdaa.Q
open Go.RowKit Go.Shelf
attribute [local go_sem] Oper.semAt_some
set_option linter.unusedVariables false
set_option linter.unusedSimpArgs false
open Go.Proofs.YtlbjcmiegbejdaaW.PrintWords Go.Proofs.YtlbjcmiegbejdaaW.PrintMore
open Go.Proofs.Ytlbjcmiegbejdaa.Bm
theorem start_step (R : Nat → Nat) (k : Nat) : upd (wstart R k) k (wstart R k k ||| 2 ^ k) = wstart R (k + 1) := by
  funext i
  have e : wstart R k k = R k := by unfold wstart; rw [if_neg (by omega)]
  unfold upd
  by_cases h : i = k
  · subst h
    rw [if_pos rfl, e]
    unfold wstart
    rw [if_pos (by omega)]
  · rw [if_neg h]
    unfold wstart
    by_cases h' : i < k
    · rw [if_pos h', if_pos (by omega)]
    · rw [if_neg h', if_neg (by omega)]
theorem start_zero (R : Nat → Nat) : wstart R 0 = R := by funext i; unfold wstart; rw [if_neg (by omega)]
theorem start_lt {R : Nat → Nat} (h : ∀ i, R i < 2 ^ 64) {m : Nat} (hm : m ≤ 64) (i : Nat) : wstart R m i < 2 ^ 64 := by
  unfold wstart
  split
  · exact Nat.or_lt_two_pow (h i) (Nat.pow_lt_pow_right (by decide) (by omega))
  · exact h i
theorem inner_lt {R : Nat → Nat} (h : ∀ i, R i < 2 ^ 64) (w m i : Nat) : winner R w m i < 2 ^ 64 := by
  unfold winner
  split
  · exact Nat.or_lt_two_pow (h i) (h w)
  · exact h i
theorem inner_zero (R : Nat → Nat) (w : Nat) : winner R w 0 = R := by funext i; unfold winner; rw [if_neg (by omega)]
theorem inner_yes {R : Nat → Nat} {w m : Nat} (h : (winner R w m m).testBit w = true) : upd (winner R w m) m (winner R w m m ||| winner R w m w) = winner R w (m + 1) := by
  rw [winner_step]
  funext i
  unfold upd
  by_cases e : i = m
  · rw [if_pos e, if_pos e, if_pos h]
  · rw [if_neg e, if_neg e]
theorem inner_no {R : Nat → Nat} {w m : Nat} (h : (winner R w m m).testBit w = false) : winner R w (m + 1) = winner R w m := by
  rw [winner_step]
  funext i
  by_cases e : i = m
  · rw [if_pos e, if_neg (by rw [h]; decide), e]
  · rw [if_neg e]
theorem zeroM (W : World) : (zeroValue 83).run Try.prog W = .ok (.agg (mcells (fun _ => 0) 0).toArray) W := by
  have h : (Try.prog.info? 83).map (·.zero) = some (some (.agg (mcells (fun _ => 0) 0).toArray)) := by kernel_rfl
  cases hq : Try.prog.info? 83 with
  | none => simp [hq] at h
  | some i =>
    have hs : i.zero = some (.agg (mcells (fun _ => 0) 0).toArray) := by simpa [hq] using h
    simp [zeroValue, typeInfo, hq, hs]
theorem isM : Try.prog.underlying 83 = some (match Try.prog.underlying 83 with | some d => d | none => .bool) := by kernel_rfl
theorem isMrow : (match Try.prog.underlying 83 with | some d => d | none => .bool : TypeDesc).isRow = true := by kernel_rfl
theorem infoM (R : Nat → Nat) (n : Nat) : (Try.prog.info? 83).map (·.size) = some (mcells R n).length := by
  rw [mcells_len]
  kernel_rfl
set_option maxRecDepth 100000 in
set_option maxHeartbeats 2000000 in
theorem closed (R : Nat → Nat) (hR : ∀ i, R i < 2 ^ 64) (n : Nat) (hn : n ≤ 64) (w : World) :
    Calls Try.prog 68 #[.agg (mcells R n).toArray] w fun e W' => e = .returned (.agg (mcells (wouter R n n) n).toArray) ∧ Below w.heap.size w W' := by
  have HR := Lib.hid hR
  clear hR
  have hzM := zeroM
  have hn0 : (0 : Int) ≤ (n : Int) := by omega
  have hn64 : (n : Int) ≤ 64 := by omega
  have hmx : Try.prog.follows .mixedOrders = true := by kernel_rfl
  have M0 := MatAt.new w R n
  have Z0 := MatAt.new (w.alloc (.cells (mcells R n).toArray 83)) (fun _ => 0) 0
  have hB0 : Below w.heap.size w ((w.alloc (.cells (mcells R n).toArray 83)).alloc (.cells (mcells (fun _ => 0) 0).toArray 83)) := ((Below.refl _ w).alloc (Nat.le_refl _) _).alloc (by simp) _
  have M1 := M0.alloc (.cells (mcells (fun _ => 0) 0).toArray 83)
  rw [World.size_alloc] at Z0
  go_enter Try.func68, Try.ntmps68
  go_upto_region 1 with fail
  obtain ⟨W1, hW1⟩ : ∃ W1, W1 = (w.alloc (.cells (mcells R n).toArray 83)).alloc (.cells (mcells (fun _ => 0) 0).toArray 83) := ⟨_, rfl⟩
  rw [← hW1] at M1 Z0 hB0 ⊢
  clear hW1 M0 hzM
  have hnum := M1.num
  go_wp2_with fail
  go_loopw [8] (fun c wr => ∃ k : Nat, k ≤ n ∧ c = .int .i64 k ∧ MatAt wr w.heap.size (wstart R k) n ∧ MatAt wr (w.heap.size + 1) (fun _ => 0) 0 ∧ Below w.heap.size w wr) (fun c _ => n - (intOf c).toNat)
  case atStart => exact ⟨0, by omega, rfl, by rw [start_zero]; exact M1, Z0, hB0⟩
  case round =>
    obtain ⟨k, hk, rfl, hM, hZ, hB⟩ := hrel
    have hnum := hM.num
    by_cases hlt : k < n
    · have hk1 : decide ((k : Int) < (n : Int)) = true := decide_eq_true (by omega)
      have hk0 : (0 : Int) ≤ (k : Int) := by omega
      have hk64 : (k : Int) < 64 := by omega
      have hcell := hM.cell k (by omega)
      have hfz := hM.frozen k
      have hone := fun W => callsIn_wide.1 (one_in Fence.wide 3 trivial rfl k (by omega) W)
      have HO := Lib.hid hone
      have hor := or_u64 (start_lt HR.out (show k ≤ 64 by omega) k) (Nat.pow_lt_pow_right (a := 2) (by decide) (show k < 64 by omega))
      generalize hp : ((2 ^ k : Nat) : Int) = p at hor
      have HP := Lib.hid hp
      have HOR := Lib.hid hor
      clear hone hp hor
      go_wp2_with fail
      go_region_with (go_at_call 75; refine (HO.out _).mono ?_; rintro e w' ⟨rfl, rfl⟩; rw [HP.out])
      all_goals
        rw [HOR.out]
        have M2 := hM.set k (wstart R k k ||| 2 ^ k) (by omega)
        rw [start_step] at M2
        have Z2 := hZ.other (B := w.heap.size) (by omega) k (.int .u64 ((wstart R k k ||| 2 ^ k : Nat) : Int))
        have B2 := (hB.setCell (p := ⟨w.heap.size, k, none⟩) (Nat.le_refl _) (.int .u64 ((wstart R k k ||| 2 ^ k : Nat) : Int))).drew
        go_wp2
        go_roundw
        case rel => exact ⟨k + 1, by omega, by go_num, M2, Z2, B2⟩
        case measure => simp [intOf]; omega
    · obtain rfl : k = n := by omega
      have hk1 : decide ((k : Int) < (k : Int)) = false := by simp
      clear hlt M1 Z0 hB0
      go_wp2_with fail
      go_loopw [23] (fun c wr => ∃ t : Nat, t ≤ k ∧ c = .int .i64 t ∧ MatAt wr w.heap.size (wouter R k t) k ∧ MatAt wr (w.heap.size + 1) (fun _ => 0) 0 ∧ Below w.heap.size w wr) (fun c _ => k - (intOf c).toNat)
      case atStart => exact ⟨0, by omega, rfl, hM, hZ, hB⟩
      case round =>
        clear hM hZ hB hnum
        obtain ⟨t, ht, rfl, hM, hZ, hB⟩ := hrel
        have hnum := hM.num
        by_cases hlt : t < k
        · have hk1 : decide ((t : Int) < (k : Int)) = true := decide_eq_true (by omega)
          go_wp2_with fail
          go_loopw [28] (fun c wr => ∃ m : Nat, m ≤ k ∧ c = .int .i64 m ∧ MatAt wr w.heap.size (winner (wouter R k t) t m) k ∧ MatAt wr (w.heap.size + 1) (fun _ => 0) 0 ∧ Below w.heap.size w wr) (fun c _ => k - (intOf c).toNat)
          case atStart => exact ⟨0, by omega, rfl, by rw [inner_zero]; exact hM, hZ, hB⟩
          case round =>
            clear hM hZ hB hnum
            obtain ⟨m, hm, rfl, hM, hZ, hB⟩ := hrel
            by_cases hlm : m < k
            · have hm1 : decide ((m : Int) < (k : Int)) = true := decide_eq_true (by omega)
              have hm0 : (0 : Int) ≤ (m : Int) := by omega
              have hm64 : (m : Int) < 64 := by omega
              have ht0 : (0 : Int) ≤ (t : Int) := by omega
              have ht64 : (t : Int) < 64 := by omega
              have hcm := hM.cell m (by omega)
              have hct := hM.cell t (by omega)
              have hfz := hM.frozen m
              have hlt' := wouter_lt (R := R) (n := k) (b := 64) (by omega) HR.out t
              have hin := inner_lt hlt' t m
              have hhas := fun W => callsIn_wide.1 (has_in Fence.wide 3 trivial trivial rfl (by decide) (winner (wouter R k t) t m m) t (hin m) (by omega) W)
              have HH := Lib.hid hhas
              have hor := or_u64 (hin m) (hin t)
              have HOR := Lib.hid hor
              clear hhas hor hlt' hin
              cases hb : (winner (wouter R k t) t m m).testBit t with
              | true =>
                have HB := Lib.hid hb
                clear hb
                go_wp2_with (go_at_call 76; refine (HH.out _).mono ?_; rintro e w' ⟨rfl, rfl⟩; rw [HB.out])
                go_region_with fail
                all_goals
                  rw [HOR.out]
                  have M2 := hM.set m (winner (wouter R k t) t m m ||| winner (wouter R k t) t m t) (by omega)
                  rw [inner_yes HB.out] at M2
                  have Z2 := hZ.other (B := w.heap.size) (by omega) m (.int .u64 ((winner (wouter R k t) t m m ||| winner (wouter R k t) t m t : Nat) : Int))
                  have B2 := (hB.setCell (p := ⟨w.heap.size, m, none⟩) (Nat.le_refl _) (.int .u64 ((winner (wouter R k t) t m m ||| winner (wouter R k t) t m t : Nat) : Int))).drew
                  go_wp2
                  go_roundw
                  case rel => exact ⟨m + 1, by omega, by go_num, M2, Z2, B2⟩
                  case measure => simp [intOf]; omega
              | false =>
                have HB := Lib.hid hb
                clear hb
                have e := inner_no HB.out
                have HE := Lib.hid e
                clear e
                go_wp2_with (go_at_call 76; refine (HH.out _).mono ?_; rintro e w' ⟨rfl, rfl⟩; rw [HB.out])
                go_roundw
                case rel => exact ⟨m + 1, by omega, by go_num, by rw [HE.out]; exact hM, hZ, hB⟩
                case measure => simp [intOf]; omega
            · obtain rfl : m = k := by omega
              have hm1 : decide ((m : Int) < (m : Int)) = false := by simp
              go_wp2_with fail
              go_roundw
              case rel => exact ⟨t + 1, by omega, by go_num, hM, hZ, hB⟩
              case measure => simp [intOf]; omega
        · obtain rfl : t = k := by omega
          have hk1 : decide ((t : Int) < (t : Int)) = false := by simp
          go_wp2_with (first | (with_reducible refine wpList_load_mid rfl 83 (.tmp 1) rfl w.heap.size 0 rfl (mcells (wouter R t t) t) _ hM.range isM isMrow (infoM _ _) ?_) | (with_reducible refine wpList_store_mid rfl 83 (.tmp 2) (.tmp 50) rfl (w.heap.size + 1) 0 (mcells (wouter R t t) t).toArray rfl rfl (by simpa [mcells_len] using hZ.there) (by simpa using infoM _ _) (all_oneCell_toArray (mcells_one _ _)) ?_))
          exact bodyPost_ret (v := .agg (mcells (wouter R t t) t).toArray) (results_cell_row rfl _ _ (w.heap.size + 1) 83 (mcells (wouter R t t) t).toArray (0, 0) _ rfl hZ.store isM isMrow (by simpa using infoM _ _)) rfl ⟨rfl, below_setCells hB hB.size (by simp) _ _⟩
end Go.Proofs.Ytlbjcmiegbejdaa.Q
