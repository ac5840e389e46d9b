/- Layer 1: a relation's rows as a row. -/
import Derived.Test.YtlbjcmiegbejdaaB3
import Derived.StillTailTactics
import Derived.RegionTactic
import Derived.RegionIn
import Derived.Shelf.RegionOpen
import Derived.Deep.RegionLaw
import Derived.Deep.AppendLies
import Derived.Test.YtlbjcmiegbejdaaWLast
import Derived.Test.YtlbjcmiegbejdaaB1
import Derived.LoopTactic
import Derived.Deep.QuietTactic
import Derived.BigQuiet
namespace Go.Proofs.Ytlbjcmiegbejdaa.Q
open Go.RowKit Go.Shelf
attribute [local go_sem] Oper.semAt_some
set_option linter.unusedVariables false
set_option linter.unusedSimpArgs false
open Go.Proofs.YtlbjcmiegbejdaaW.PrintWords Go.Proofs.YtlbjcmiegbejdaaW.PrintMore
theorem infoU : (Try.prog.info? 33).map (fun i => (i.zero, i.size, i.bytes)) = some (some (.int .u64 0), 1, 8) := by kernel_rfl
theorem sizeU (W : World) : (sizeOf 33).run Try.prog W = .ok 1 W := by
  have h : (Try.prog.info? 33).map (·.size) = some 1 := by kernel_rfl
  cases hq : Try.prog.info? 33 with
  | none => simp [hq] at h
  | some i =>
    have hs : i.size = 1 := by simpa [hq] using h
    simp [sizeOf, typeInfo, hq, hs]
theorem arrU : Try.prog.underlying 81 = some (.array 64 33) := by kernel_rfl
theorem slice_to (b n : Nat) (hn : n ≤ 64) (W : World) : (Instr.sliceAt 81 (.pointer (some ⟨b, 0, none⟩)) none (some (.int .i64 ((n : Nat) : Int))) none).run Try.prog W = .ok (.slice (some ⟨b, 0, none⟩) n 64) W := by
  have hl : Try.prog.arrayLen 81 = 64 := by kernel_rfl
  have he : Try.prog.elem 81 = 33 := by kernel_rfl
  rw [run_sliceAt_array_h W 81 ⟨b, 0, none⟩ (by rw [hl, he]; exact arrU) .i64 n (by omega) (by rw [hl]; omega), he, sizeU, hl]
  simp [slicedAt, Addr.add, Result.andThen]
theorem slice_all (b : Nat) (W : World) : (Instr.sliceAt 81 (.pointer (some ⟨b, 0, none⟩)) none none none).run Try.prog W = .ok (.slice (some ⟨b, 0, none⟩) 64 64) W := by
  have hl : Try.prog.arrayLen 81 = 64 := by kernel_rfl
  have he : Try.prog.elem 81 = 33 := by kernel_rfl
  rw [run_sliceAt_array_all W 81 ⟨b, 0, none⟩ (by rw [hl, he]; exact arrU), he, sizeU, hl]
  simp [slicedAt, Addr.add, Result.andThen]
/-- The first n rows. -/
def rowsI (R : Nat → Nat) (n : Nat) : List Int := (List.range n).map fun i => ((R i : Nat) : Int)
theorem rowsI_len (R : Nat → Nat) (n : Nat) : (rowsI R n).length = n := by simp [rowsI]
set_option maxRecDepth 100000 in
set_option maxHeartbeats 2000000 in
theorem mlist (R : Nat → Nat) (n : Nat) (hn : n ≤ 64) (w : World) :
    Calls Try.prog 69 #[.agg (mcells R n).toArray] w fun e W' => ∃ v, e = .returned v ∧ Kd.R (Kd.int .u64) 33 W' w.heap.size (fun _ => True) v (rowsI R n) ∧ Below w.heap.size w W' := by
  obtain ⟨i0, hi, hz0, hz1, hz2⟩ := info_parts infoU
  by_cases hn0 : n = 0
  · subst hn0
    have ht : ((((0 : Nat) : Int)) == 0) = true := by decide
    go_enter Try.func69, Try.ntmps69
    go_upto_region 1 with fail
    have hM := MatAt.new w R 0
    have hB1 : Below w.heap.size w (w.alloc (.cells (mcells R 0).toArray 83)) := (Below.refl _ w).alloc (Nat.le_refl _) _
    obtain ⟨W1, hW1⟩ : ∃ W1, W1 = w.alloc (.cells (mcells R 0).toArray 83) := ⟨_, rfl⟩
    rw [← hW1] at hM hB1 ⊢
    clear hW1
    have hnum := hM.num
    go_wp2
    go_ret
    exact ⟨_, rfl, Kd.R_nil _ _ _ _ _, hB1⟩
  · have ht : (((n : Nat) : Int) == 0) = false := by rw [beq_eq_false_iff_ne]; omega
    have hsl := slice_to w.heap.size n hn
    go_enter Try.func69, Try.ntmps69
    go_upto_region 1 with fail
    have hM := MatAt.new w R n
    have hB1 : Below w.heap.size w (w.alloc (.cells (mcells R n).toArray 83)) := (Below.refl _ w).alloc (Nat.le_refl _) _
    obtain ⟨W1, hW1⟩ : ∃ W1, W1 = w.alloc (.cells (mcells R n).toArray 83) := ⟨_, rfl⟩
    rw [← hW1] at hM hB1 ⊢
    clear hW1
    have hnum := hM.num
    have hb : w.heap.size < W1.heap.size := hM.lt
    have hown : (W1.alloc (.cells #[] 33)).ownsRow w.heap.size 33 1 (.slice (some ⟨W1.heap.size, 0, none⟩) 0 0) 0 [] := ⟨by simp, .inr ⟨W1.heap.size, 0, #[], rfl, hB1.size, World.alloc_heap_new W1 _, Nat.le_refl _, by simp [maxLen], by simp, by simp⟩⟩
    have hnews : ∀ j u, ((rowsI R n).map (Value.int .u64))[j]? = some u → (W1.alloc (.cells #[] 33)).cell? ((⟨w.heap.size, 0, none⟩ : Addr).add j) = some u := by
      intro j u hj
      have hjn : j < n := by have := (List.getElem?_eq_some_iff.1 hj).1; simpa [rowsI] using this
      rw [Addr.add_mid, Nat.zero_add, (hM.alloc _).cell j (by omega)]
      simp [rowsI, hjn] at hj
      rw [hj]
    have HO := Lib.hid hown
    have HN := Lib.hid hnews
    clear hown hnews
    go_wp2_with ((with_reducible refine gate_builtin (b := .append) (xs := #[.tmp 6, .tmp 10]) rfl ?_); at_builtin; refine wpList_append_own _ rfl (.tmp 6) (.tmp 10) 22 rfl w.heap.size 33 i0 (.int .u64 0) 1 8 Try.underlying22 hi hz0 hz1 hz2 rfl (by decide) _ 0 [] rfl HO.out ⟨w.heap.size, 0, none⟩ n 64 ((rowsI R n).map (Value.int .u64)) rfl (by simp [rowsI]) HN.out (by simp [Value.oneCell']) (by unfold maxLen; omega) (by omega) (by simp; omega) ?_; intro v' w1 hown' hgrow _)
    go_ret
    refine ⟨_, rfl, Kd.R_of_own (by rw [rowsI_len]; simpa [encs] using hown') (fun _ _ => trivial), ?_⟩
    exact (hB1.alloc hB1.size _).grown hgrow (by simp; omega) (fun k e => by cases e; exact hB1.size)
theorem mat_own {β : Type} (b : Nat) (f : β → Nat → Nat) (n : Nat) : Own (fun s W => MatAt W b (f s) n) := fun s X Y row hs hg hrow =>
  hs.kept hg (fun e' => by obtain ⟨o, ho, hc⟩ := hrow b e'.symm; rw [show X.heap[b]? = _ from hs] at ho; cases ho; cases hc)
theorem or_u64 {a b : Nat} (ha : a < 2 ^ 64) (hb : b < 2 ^ 64) : bits .or .u64 (a : Int) (b : Int) = ((a ||| b : Nat) : Int) := by
  have hw : ∀ n : Int, 0 ≤ n → n < 2 ^ 64 → IntKind.u64.wrap n = n := fun n h0 h1 => by simp [IntKind.wrap, IntKind.bits, IntKind.signed]; omega
  exact (bits_nat .u64 64 (by decide) hw a b ha hb).2
end Go.Proofs.Ytlbjcmiegbejdaa.Q

/- Layer 1: a relation's closure, by way of each member. -/
namespace Go.Proofs.Ytlbjcmiegbejdaa.Q
open Go.RowKit Go.Shelf
attribute [local go_sem] Oper.semAt_some
set_option linter.unusedVariables false
set_option linter.unusedSimpArgs false
open Go.Proofs.YtlbjcmiegbejdaaW.PrintWords Go.Proofs.YtlbjcmiegbejdaaW.PrintMore
open Go.Proofs.Ytlbjcmiegbejdaa.Bm
theorem start_step (R : Nat → Nat) (k : Nat) : upd (wstart R k) k (wstart R k k ||| 2 ^ k) = wstart R (k + 1) := by
  funext i
  have e : wstart R k k = R k := by unfold wstart; rw [if_neg (by omega)]
  unfold upd
  by_cases h : i = k
  · subst h
    rw [if_pos rfl, e]
    unfold wstart
    rw [if_pos (by omega)]
  · rw [if_neg h]
    unfold wstart
    by_cases h' : i < k
    · rw [if_pos h', if_pos (by omega)]
    · rw [if_neg h', if_neg (by omega)]
theorem start_zero (R : Nat → Nat) : wstart R 0 = R := by funext i; unfold wstart; rw [if_neg (by omega)]
theorem start_lt {R : Nat → Nat} (h : ∀ i, R i < 2 ^ 64) {m : Nat} (hm : m ≤ 64) (i : Nat) : wstart R m i < 2 ^ 64 := by
  unfold wstart
  split
  · exact Nat.or_lt_two_pow (h i) (Nat.pow_lt_pow_right (by decide) (by omega))
  · exact h i
theorem inner_lt {R : Nat → Nat} (h : ∀ i, R i < 2 ^ 64) (w m i : Nat) : winner R w m i < 2 ^ 64 := by
  unfold winner
  split
  · exact Nat.or_lt_two_pow (h i) (h w)
  · exact h i
theorem inner_zero (R : Nat → Nat) (w : Nat) : winner R w 0 = R := by funext i; unfold winner; rw [if_neg (by omega)]
theorem inner_yes {R : Nat → Nat} {w m : Nat} (h : (winner R w m m).testBit w = true) : upd (winner R w m) m (winner R w m m ||| winner R w m w) = winner R w (m + 1) := by
  rw [winner_step]
  funext i
  unfold upd
  by_cases e : i = m
  · rw [if_pos e, if_pos e, if_pos h]
  · rw [if_neg e, if_neg e]
theorem inner_no {R : Nat → Nat} {w m : Nat} (h : (winner R w m m).testBit w = false) : winner R w (m + 1) = winner R w m := by
  rw [winner_step]
  funext i
  by_cases e : i = m
  · rw [if_pos e, if_neg (by rw [h]; decide), e]
  · rw [if_neg e]
theorem zeroM (W : World) : (zeroValue 83).run Try.prog W = .ok (.agg (mcells (fun _ => 0) 0).toArray) W := by
  have h : (Try.prog.info? 83).map (·.zero) = some (some (.agg (mcells (fun _ => 0) 0).toArray)) := by kernel_rfl
  cases hq : Try.prog.info? 83 with
  | none => simp [hq] at h
  | some i =>
    have hs : i.zero = some (.agg (mcells (fun _ => 0) 0).toArray) := by simpa [hq] using h
    simp [zeroValue, typeInfo, hq, hs]
theorem isM : Try.prog.underlying 83 = some (match Try.prog.underlying 83 with | some d => d | none => .bool) := by kernel_rfl
theorem isMrow : (match Try.prog.underlying 83 with | some d => d | none => .bool : TypeDesc).isRow = true := by kernel_rfl
theorem infoM (R : Nat → Nat) (n : Nat) : (Try.prog.info? 83).map (·.size) = some (mcells R n).length := by
  rw [mcells_len]
  kernel_rfl
set_option maxRecDepth 100000 in
set_option maxHeartbeats 2000000 in
theorem closed (R : Nat → Nat) (hR : ∀ i, R i < 2 ^ 64) (n : Nat) (hn : n ≤ 64) (w : World) :
    Calls Try.prog 68 #[.agg (mcells R n).toArray] w fun e W' => e = .returned (.agg (mcells (wouter R n n) n).toArray) ∧ Below w.heap.size w W' := by
  have HR := Lib.hid hR
  clear hR
  have hzM := zeroM
  have hn0 : (0 : Int) ≤ (n : Int) := by omega
  have hn64 : (n : Int) ≤ 64 := by omega
  have hmx : Try.prog.follows .mixedOrders = true := by kernel_rfl
  have M0 := MatAt.new w R n
  have Z0 := MatAt.new (w.alloc (.cells (mcells R n).toArray 83)) (fun _ => 0) 0
  have hB0 : Below w.heap.size w ((w.alloc (.cells (mcells R n).toArray 83)).alloc (.cells (mcells (fun _ => 0) 0).toArray 83)) := ((Below.refl _ w).alloc (Nat.le_refl _) _).alloc (by simp) _
  have M1 := M0.alloc (.cells (mcells (fun _ => 0) 0).toArray 83)
  rw [World.size_alloc] at Z0
  go_enter Try.func68, Try.ntmps68
  go_upto_region 1 with fail
  obtain ⟨W1, hW1⟩ : ∃ W1, W1 = (w.alloc (.cells (mcells R n).toArray 83)).alloc (.cells (mcells (fun _ => 0) 0).toArray 83) := ⟨_, rfl⟩
  rw [← hW1] at M1 Z0 hB0 ⊢
  clear hW1 M0 hzM
  have hnum := M1.num
  go_wp2_with fail
  go_loopw [8] (fun c wr => ∃ k : Nat, k ≤ n ∧ c = .int .i64 k ∧ MatAt wr w.heap.size (wstart R k) n ∧ MatAt wr (w.heap.size + 1) (fun _ => 0) 0 ∧ Below w.heap.size w wr) (fun c _ => n - (intOf c).toNat)
  case atStart => exact ⟨0, by omega, rfl, by rw [start_zero]; exact M1, Z0, hB0⟩
  case round =>
    obtain ⟨k, hk, rfl, hM, hZ, hB⟩ := hrel
    have hnum := hM.num
    by_cases hlt : k < n
    · have hk1 : decide ((k : Int) < (n : Int)) = true := decide_eq_true (by omega)
      have hk0 : (0 : Int) ≤ (k : Int) := by omega
      have hk64 : (k : Int) < 64 := by omega
      have hcell := hM.cell k (by omega)
      have hfz := hM.frozen k
      have hone := fun W => callsIn_wide.1 (one_in Fence.wide 3 trivial rfl k (by omega) W)
      have HO := Lib.hid hone
      have hor := or_u64 (start_lt HR.out (show k ≤ 64 by omega) k) (Nat.pow_lt_pow_right (a := 2) (by decide) (show k < 64 by omega))
      generalize hp : ((2 ^ k : Nat) : Int) = p at hor
      have HP := Lib.hid hp
      have HOR := Lib.hid hor
      clear hone hp hor
      go_wp2_with fail
      go_region_with (go_at_call 75; refine (HO.out _).mono ?_; rintro e w' ⟨rfl, rfl⟩; rw [HP.out])
      all_goals
        rw [HOR.out]
        have M2 := hM.set k (wstart R k k ||| 2 ^ k) (by omega)
        rw [start_step] at M2
        have Z2 := hZ.other (B := w.heap.size) (by omega) k (.int .u64 ((wstart R k k ||| 2 ^ k : Nat) : Int))
        have B2 := (hB.setCell (p := ⟨w.heap.size, k, none⟩) (Nat.le_refl _) (.int .u64 ((wstart R k k ||| 2 ^ k : Nat) : Int))).drew
        go_wp2
        go_roundw
        case rel => exact ⟨k + 1, by omega, by go_num, M2, Z2, B2⟩
        case measure => simp [intOf]; omega
    · obtain rfl : k = n := by omega
      have hk1 : decide ((k : Int) < (k : Int)) = false := by simp
      clear hlt M1 Z0 hB0
      go_wp2_with fail
      go_loopw [23] (fun c wr => ∃ t : Nat, t ≤ k ∧ c = .int .i64 t ∧ MatAt wr w.heap.size (wouter R k t) k ∧ MatAt wr (w.heap.size + 1) (fun _ => 0) 0 ∧ Below w.heap.size w wr) (fun c _ => k - (intOf c).toNat)
      case atStart => exact ⟨0, by omega, rfl, hM, hZ, hB⟩
      case round =>
        clear hM hZ hB hnum
        obtain ⟨t, ht, rfl, hM, hZ, hB⟩ := hrel
        have hnum := hM.num
        by_cases hlt : t < k
        · have hk1 : decide ((t : Int) < (k : Int)) = true := decide_eq_true (by omega)
          go_wp2_with fail
          go_loopw [28] (fun c wr => ∃ m : Nat, m ≤ k ∧ c = .int .i64 m ∧ MatAt wr w.heap.size (winner (wouter R k t) t m) k ∧ MatAt wr (w.heap.size + 1) (fun _ => 0) 0 ∧ Below w.heap.size w wr) (fun c _ => k - (intOf c).toNat)
          case atStart => exact ⟨0, by omega, rfl, by rw [inner_zero]; exact hM, hZ, hB⟩
          case round =>
            clear hM hZ hB hnum
            obtain ⟨m, hm, rfl, hM, hZ, hB⟩ := hrel
            by_cases hlm : m < k
            · have hm1 : decide ((m : Int) < (k : Int)) = true := decide_eq_true (by omega)
              have hm0 : (0 : Int) ≤ (m : Int) := by omega
              have hm64 : (m : Int) < 64 := by omega
              have ht0 : (0 : Int) ≤ (t : Int) := by omega
              have ht64 : (t : Int) < 64 := by omega
              have hcm := hM.cell m (by omega)
              have hct := hM.cell t (by omega)
              have hfz := hM.frozen m
              have hlt' := wouter_lt (R := R) (n := k) (b := 64) (by omega) HR.out t
              have hin := inner_lt hlt' t m
              have hhas := fun W => callsIn_wide.1 (has_in Fence.wide 3 trivial trivial rfl (by decide) (winner (wouter R k t) t m m) t (hin m) (by omega) W)
              have HH := Lib.hid hhas
              have hor := or_u64 (hin m) (hin t)
              have HOR := Lib.hid hor
              clear hhas hor hlt' hin
              cases hb : (winner (wouter R k t) t m m).testBit t with
              | true =>
                have HB := Lib.hid hb
                clear hb
                go_wp2_with (go_at_call 76; refine (HH.out _).mono ?_; rintro e w' ⟨rfl, rfl⟩; rw [HB.out])
                go_region_with fail
                all_goals
                  rw [HOR.out]
                  have M2 := hM.set m (winner (wouter R k t) t m m ||| winner (wouter R k t) t m t) (by omega)
                  rw [inner_yes HB.out] at M2
                  have Z2 := hZ.other (B := w.heap.size) (by omega) m (.int .u64 ((winner (wouter R k t) t m m ||| winner (wouter R k t) t m t : Nat) : Int))
                  have B2 := (hB.setCell (p := ⟨w.heap.size, m, none⟩) (Nat.le_refl _) (.int .u64 ((winner (wouter R k t) t m m ||| winner (wouter R k t) t m t : Nat) : Int))).drew
                  go_wp2
                  go_roundw
                  case rel => exact ⟨m + 1, by omega, by go_num, M2, Z2, B2⟩
                  case measure => simp [intOf]; omega
              | false =>
                have HB := Lib.hid hb
                clear hb
                have e := inner_no HB.out
                have HE := Lib.hid e
                clear e
                go_wp2_with (go_at_call 76; refine (HH.out _).mono ?_; rintro e w' ⟨rfl, rfl⟩; rw [HB.out])
                go_roundw
                case rel => exact ⟨m + 1, by omega, by go_num, by rw [HE.out]; exact hM, hZ, hB⟩
                case measure => simp [intOf]; omega
            · obtain rfl : m = k := by omega
              have hm1 : decide ((m : Int) < (m : Int)) = false := by simp
              go_wp2_with fail
              go_roundw
              case rel => exact ⟨t + 1, by omega, by go_num, hM, hZ, hB⟩
              case measure => simp [intOf]; omega
        · obtain rfl : t = k := by omega
          have hk1 : decide ((t : Int) < (t : Int)) = false := by simp
          go_wp2_with (first | (with_reducible refine wpList_load_mid rfl 83 (.tmp 1) rfl w.heap.size 0 rfl (mcells (wouter R t t) t) _ hM.range isM isMrow (infoM _ _) ?_) | (with_reducible refine wpList_store_mid rfl 83 (.tmp 2) (.tmp 50) rfl (w.heap.size + 1) 0 (mcells (wouter R t t) t).toArray rfl rfl (by simpa [mcells_len] using hZ.there) (by simpa using infoM _ _) (all_oneCell_toArray (mcells_one _ _)) ?_))
          exact bodyPost_ret (v := .agg (mcells (wouter R t t) t).toArray) (results_cell_row rfl _ _ (w.heap.size + 1) 83 (mcells (wouter R t t) t).toArray (0, 0) _ rfl hZ.store isM isMrow (by simpa using infoM _ _)) rfl ⟨rfl, below_setCells hB hB.size (by simp) _ _⟩
end Go.Proofs.Ytlbjcmiegbejdaa.Q

/- Layer 1: the relation of rows. -/
namespace Go.Proofs.Ytlbjcmiegbejdaa.Q
open Go.RowKit Go.Shelf
attribute [local go_sem] Oper.semAt_some
set_option linter.unusedVariables false
set_option linter.unusedSimpArgs false
open Go.Proofs.YtlbjcmiegbejdaaW.PrintWords Go.Proofs.YtlbjcmiegbejdaaW.PrintMore
open Go.Proofs.Ytlbjcmiegbejdaa.Bm
/-- The rows that a list tells. -/
def rowsF (l : List Int) : Nat → Nat := fun i => (l.getD i 0).toNat
def okU (l : List Int) : Prop := ∀ x ∈ l, 0 ≤ x ∧ x < 18446744073709551616
theorem okU_at {l : List Int} (h : okU l) {i : Nat} (hi : i < l.length) : l[i]? = some ((rowsF l i : Nat) : Int) ∧ rowsF l i < 2 ^ 64 := by
  have h1 : l[i]? = some (l[i]) := List.getElem?_eq_getElem hi
  have h2 := h _ (List.getElem_mem hi)
  have e : rowsF l i = (l[i]).toNat := by unfold rowsF; rw [List.getD_eq_getElem?_getD, h1]; rfl
  rw [e, h1]
  generalize l[i] = x at *
  exact ⟨by congr 1; omega, by omega⟩
theorem rowsF_lt {l : List Int} (h : okU l) (i : Nat) : rowsF l i < 2 ^ 64 := by
  by_cases hi : i < l.length
  · exact (okU_at h hi).2
  · unfold rowsF
    rw [List.getD_eq_getElem?_getD, List.getElem?_eq_none (by omega)]
    decide
theorem splice_rows {l : List Int} (h : okU l) (hl : l.length ≤ 64) : splice (mcells (fun _ => 0) 0) 0 (l.map (Value.int .u64)) = mcells (rowsF l) 0 := by
  unfold splice
  rw [List.take_zero, List.nil_append, Nat.zero_add, List.length_map]
  apply List.ext_getElem?
  intro j
  rw [List.getElem?_append, List.length_map]
  by_cases hj : j < l.length
  · rw [if_pos hj, List.getElem?_map, (okU_at h hj).1, mcells_at _ _ _ (by omega)]; rfl
  · rw [if_neg hj, List.getElem?_drop, show l.length + (j - l.length) = j by omega]
    by_cases h64 : j < 64
    · rw [mcells_at _ _ _ h64, mcells_at _ _ _ h64]
      have e : rowsF l j = 0 := by unfold rowsF; rw [List.getD_eq_getElem?_getD, List.getElem?_eq_none (by omega)]; rfl
      rw [e]
    · by_cases he : j = 64
      · subst he; rw [mcells_n, mcells_n]
      · rw [List.getElem?_eq_none (by rw [mcells_len]; omega), List.getElem?_eq_none (by rw [mcells_len]; omega)]
/-- Do rows stay within their number? -/
def okRel (R : Nat → Nat) (n : Nat) : Bool := (List.range n).all fun i => decide (R i < 2 ^ n)
theorem okRel_iff {R : Nat → Nat} {n : Nat} : okRel R n = true ↔ ∀ i, i < n → R i < 2 ^ n := by simp [okRel]
/-- What the relation of rows is; and the error. -/
def ofR (l : List Int) : (Nat → Nat) × Nat × Int := if 64 < l.length then (fun _ => 0, 0, 3) else if okRel (rowsF l) l.length then (rowsF l, l.length, 0) else (fun _ => 0, 0, 10)
theorem shr_zero {x n : Nat} : ((x : Int) / 2 ^ n != 0) = !decide (x < 2 ^ n) := by
  have e : ((x : Int) / 2 ^ n) = ((x / 2 ^ n : Nat) : Int) := by simp
  have hp := Nat.two_pow_pos n
  rw [e]
  by_cases h : x < 2 ^ n
  · rw [Nat.div_eq_of_lt h]; simp [h]
  · have h1 : 1 ≤ x / 2 ^ n := (Nat.le_div_iff_mul_le hp).2 (by omega)
    generalize x / 2 ^ n = q at *
    simp only [h, decide_false, Bool.not_false, bne_iff_ne, ne_eq]
    omega
section
variable {P : Program}
theorem results_mat {fn : Func} {p u : Tmp} {ty : TypeId} (h : fn.results = #[.cell p ty, .tmp u]) (tmps : Array Value) (w : World) (g : Nat) (t : TypeId) (cs : Array Value) (fr : Nat × Nat) (d : TypeDesc) (x : Value)
    (hp : tmps.getD p undef = .pointer (some ⟨g, 0, none⟩)) (hx : tmps.getD u undef = x) (hg : w.heap[g]? = some (.cells cs t fr))
    (hu : P.underlying ty = some d) (hd : (match d with | .struct _ | .array _ _ => true | _ => false) = true) (hi : (P.info? ty).map (·.size) = some cs.size) :
    (results fn tmps).run P w = .ok (.tuple #[.agg cs, x]) w := by
  rw [results_cell_tmp h, hp, hx]
  simp [asAddr, run_loadVar_row w g t ty cs fr d hg hu hd hi, Result.andThen]
end
set_option maxRecDepth 100000 in
set_option maxHeartbeats 2000000 in
theorem of_calls (A : Option Addr) (c : Nat) (l : List Int) (hl : okU l) (w : World) (hr : Kd.C (Kd.int .u64) w A l.length l) (hc : l.length ≤ c) :
    Calls Try.prog 67 #[.slice A l.length c] w fun e W' => e = .returned (.tuple #[.agg (mcells (ofR l).1 (ofR l).2.1).toArray, .int .i64 (ofR l).2.2]) ∧ Below w.heap.size w W' := by
  have HL := Lib.hid hl
  have HR := Lib.hid hr
  clear hl hr
  have hzM := zeroM
  have hsl := slice_all (w.heap.size + 1)
  have Z0 := MatAt.new w (fun _ => 0) 0
  have M0 := MatAt.new (w.alloc (.cells (mcells (fun _ => 0) 0).toArray 83)) (fun _ => 0) 0
  have Z1 := Z0.alloc (.cells (mcells (fun _ => 0) 0).toArray 83)
  have hB0 : Below w.heap.size w ((w.alloc (.cells (mcells (fun _ => 0) 0).toArray 83)).alloc (.cells (mcells (fun _ => 0) 0).toArray 83)) := ((Below.refl _ w).alloc (Nat.le_refl _) _).alloc (by simp) _
  rw [World.size_alloc] at M0
  by_cases h64 : 64 < l.length
  · have ht : decide (((l.length : Nat) : Int) > 64) = true := decide_eq_true (by omega)
    have hF : ofR l = (fun _ => 0, 0, 3) := by unfold ofR; rw [if_pos h64]
    have HF := Lib.hid hF
    clear h64 hF
    go_enter Try.func67, Try.ntmps67
    go_upto_if 8 with fail
    obtain ⟨W1, hW1⟩ : ∃ W1, W1 = (w.alloc (.cells (mcells (fun _ => 0) 0).toArray 83)).alloc (.cells (mcells (fun _ => 0) 0).toArray 83) := ⟨_, rfl⟩
    rw [← hW1] at M0 Z1 hB0 ⊢
    clear hW1 Z0 hzM
    go_wp2_with (first | (with_reducible refine wpList_load_mid rfl 83 (.tmp 4) rfl (w.heap.size + 1) 0 rfl (mcells (fun _ => 0) 0) _ (M0).range isM isMrow (infoM _ _) ?_) | (with_reducible refine wpList_store_mid rfl 83 (.tmp 2) (.tmp 9) rfl (w.heap.size) 0 (mcells (fun _ => 0) 0).toArray rfl rfl (by simpa [mcells_len] using (Z1).there) (by simpa using infoM _ _) (all_oneCell_toArray (mcells_one _ _)) ?_))
    refine bodyPost_ret (v := .tuple #[.agg (mcells (fun _ => 0) 0).toArray, .int .i64 3]) (results_mat rfl _ _ w.heap.size 83 (mcells (fun _ => 0) 0).toArray (0, 0) _ _ rfl rfl Z1.store isM isMrow (by simpa using infoM _ _)) rfl ⟨by rw [HF.out], below_setCells hB0 hB0.size (by simp) _ _⟩
  · have ht : decide (((l.length : Nat) : Int) > 64) = false := decide_eq_false (by omega)
    have hl64 : (l.length : Int) ≤ 64 := by omega
    go_enter Try.func67, Try.ntmps67
    go_upto_if 8 with fail
    obtain ⟨W1, hW1⟩ : ∃ W1, W1 = (w.alloc (.cells (mcells (fun _ => 0) 0).toArray 83)).alloc (.cells (mcells (fun _ => 0) 0).toArray 83) := ⟨_, rfl⟩
    rw [← hW1] at M0 Z1 hB0 ⊢
    clear hW1 Z0
    have hcp : (l.map (Value.int .u64)).length = Nat.min l.length 64 := by rw [List.length_map]; exact (Nat.min_eq_left (by omega)).symm
    have HCP := Lib.hid hcp
    have hM0 : W1.heap[w.heap.size + 1]? = some (.cells (mcells (fun _ => 0) 0).toArray 83 (0, 0)) := M0
    have HM0 := Lib.hid hM0
    have hinf : (Try.prog.info? 33).map (·.size) = some 1 := by kernel_rfl
    have HI := Lib.hid hinf
    clear hcp hM0 hinf
    have hpos : 0 < (l.map (Value.int .u64)).length → (some ⟨w.heap.size + 1, 0, none⟩ : Option Addr) = some ⟨w.heap.size + 1, 0, none⟩ ∧ ∃ ad, A = some ad ∧ ∀ j v, (l.map (Value.int .u64))[j]? = some v → W1.cell? (ad.add j) = some v := by
      intro h0
      refine ⟨rfl, ?_⟩
      have hreads := (Kd.reads_of_C (enc := Value.int .u64) (d := 0) (h1 := fun _ => rfl) (HR.out)).2.2
      obtain ⟨ad, e, hcl⟩ := hreads (by simpa using h0)
      refine ⟨ad, e, fun j v hv => ?_⟩
      obtain ⟨hj, rfl⟩ := List.getElem?_eq_some_iff.1 hv
      have hj' : j < l.length := by simpa using hj
      have h1 := hcl j hj'
      have h2 := (hB0.cell (p := ad.add j) (World.block_lt_of_cell? _ _ h1)).trans h1
      rw [h2]
      simp [List.getD, hj']
    have HPOS := Lib.hid hpos
    clear hpos
    go_upto_region 5 with ((with_reducible refine wpList_copy_splice rfl (.tmp 11) (.tmp 12) 22 22 rfl 33 Try.underlying22 HI.out _ _ 64 64 l.length c rfl rfl (w.heap.size + 1) 0 (mcells (fun _ => 0) 0) 83 HM0.out (l.map (Value.int .u64)) HCP.out HPOS.out ?hfit ?h1 (w.heap.size + 1) W1 (Below.refl _ _) (Nat.le_refl _) ?_); (case hfit => rw [List.length_map, mcells_len]; omega); (case h1 => simp [Value.oneCell']); intro w2 HG hB2; have M2 : MatAt w2 (w.heap.size + 1) (rowsF l) 0 := (by have h_ := HG.out; rw [splice_rows HL.out (by omega)] at h_; exact h_); have c64 := M2.num; have f64 := M2.frozen 64; rw [List.length_map])
    have M3 := M2.setn l.length
    have Z3 : MatAt (w2.setCell ⟨w.heap.size + 1, 64, none⟩ (.int .i64 ((l.length : Nat) : Int))) w.heap.size (fun _ => 0) 0 := MatAt.other ((hB2.block w.heap.size (by omega)).trans Z1) (by omega) _ _
    have hB3 : Below w.heap.size w (w2.setCell ⟨w.heap.size + 1, 64, none⟩ (.int .i64 ((l.length : Nat) : Int))) := (hB0.trans (hB2.mono (by omega))).setCell (p := ⟨w.heap.size + 1, 64, none⟩) (by simp) _
    obtain ⟨W3, hW3⟩ : ∃ W3, W3 = w2.setCell ⟨w.heap.size + 1, 64, none⟩ (.int .i64 ((l.length : Nat) : Int)) := ⟨_, rfl⟩
    rw [← hW3] at M3 Z3 hB3 ⊢
    clear hW3 M2 c64 f64 HG hB2 HPOS HM0 HCP HI M0 Z1 hB0 hsl
    have hnum := M3.num
    have hn0 : (0 : Int) ≤ ((l.length : Nat) : Int) := by omega
    go_wp2_with fail
    go_loopw [3, 17] (fun e q wr => ∃ k : Nat, k ≤ l.length ∧ e = .int .i64 0 ∧ q = .int .i64 k ∧ (∀ j, j < k → rowsF l j < 2 ^ l.length) ∧ MatAt wr (w.heap.size + 1) (rowsF l) l.length ∧ MatAt wr w.heap.size (fun _ => 0) 0 ∧ Below w.heap.size w wr) (fun _ q _ => l.length - (intOf q).toNat)
    case atStart => exact ⟨0, by omega, rfl, rfl, fun j hj => absurd hj (by omega), M3, Z3, hB3⟩
    case round =>
      clear M3 Z3 hB3 hnum
      obtain ⟨k, hk, rfl, rfl, hok, M3, Z3, hB3⟩ := hrel
      have hnum := M3.num
      have HOK := Lib.hid hok
      clear hok
      by_cases hlt : k < l.length
      · have hk1 : decide ((k : Int) < ((l.length : Nat) : Int)) = true := decide_eq_true (by omega)
        have hk0 : (0 : Int) ≤ (k : Int) := by omega
        have hk64 : (k : Int) < 64 := by omega
        have hcell := M3.cell k (by omega)
        by_cases hfull : l.length = 64
        · have hg : decide (((l.length : Nat) : Int) < 64) = false := decide_eq_false (by omega)
          have HX : RowKit.Hid (rowsF l k < 2 ^ l.length) := by have h_ := rowsF_lt HL.out k; rw [hfull]; exact h_
          have HFU := Lib.hid hfull
          clear hfull
          go_wp2_with fail
          go_quiet (fail)
          all_goals
            go_wp2_with fail
            go_roundw
            case rel => exact ⟨k + 1, by omega, rfl, by go_num, fun j hj => by (rcases Nat.lt_succ_iff_lt_or_eq.mp hj with h | rfl; exact HOK.out j h; exact HX.out), M3, Z3, ⟨hB3.os, hB3.tape, hB3.output, hB3.size, hB3.block⟩⟩
            case measure => simp [intOf]; omega
        · have hg : decide (((l.length : Nat) : Int) < 64) = true := decide_eq_true (by omega)
          have hg' : ((l.length : Nat) : Int) < 64 := by omega
          have hsh := shr_zero (x := rowsF l k) (n := l.length)
          by_cases hfit : rowsF l k < 2 ^ l.length
          · rw [decide_eq_true hfit] at hsh
            have HX := Lib.hid hfit
            clear hfull hfit
            go_wp2_with fail
            go_quiet (fail)
            all_goals
              go_wp2_with fail
              go_roundw
              case rel => exact ⟨k + 1, by omega, rfl, by go_num, fun j hj => by (rcases Nat.lt_succ_iff_lt_or_eq.mp hj with h | rfl; exact HOK.out j h; exact HX.out), M3, Z3, ⟨hB3.os, hB3.tape, hB3.output, hB3.size, hB3.block⟩⟩
              case measure => simp [intOf]; omega
          · rw [decide_eq_false hfit] at hsh
            have hno : okRel (rowsF l) l.length = false := by
              cases h_ : okRel (rowsF l) l.length
              · rfl
              · exact absurd (okRel_iff.1 h_ k hlt) hfit
            have hF : ofR l = (fun _ => 0, 0, 10) := by unfold ofR; rw [if_neg h64, if_neg (by rw [hno]; decide)]
            have HF := Lib.hid hF
            clear hfull hfit hno hF
            go_wp2_with fail
            go_quiet (fail)
            all_goals
              have Z4 : MatAt (wr.drewN nq) w.heap.size (fun _ => 0) 0 := Z3
              have hB4 : Below w.heap.size w (wr.drewN nq) := ⟨hB3.os, hB3.tape, hB3.output, hB3.size, hB3.block⟩
              go_wp2_with (with_reducible refine wpList_store_mid rfl 83 (.tmp 2) (.tmp 34) rfl (w.heap.size) 0 (mcells (fun _ => 0) 0).toArray rfl rfl (by simpa [mcells_len] using (Z4).there) (by simpa using infoM _ _) (all_oneCell_toArray (mcells_one _ _)) ?_)
              exact bodyPost_ret (v := .tuple #[.agg (mcells (fun _ => 0) 0).toArray, .int .i64 10]) (results_mat rfl _ _ w.heap.size 83 (mcells (fun _ => 0) 0).toArray (0, 0) _ _ rfl rfl Z4.store isM isMrow (by simpa using infoM _ _)) rfl ⟨by rw [HF.out], below_setCells hB4 hB4.size (by simp) _ _⟩
      · have hkn : k = l.length := by omega
        subst hkn
        have hk1 : decide (((l.length : Nat) : Int) < ((l.length : Nat) : Int)) = false := by simp
        have hF : ofR l = (rowsF l, l.length, 0) := by unfold ofR; rw [if_neg h64, if_pos (okRel_iff.2 HOK.out)]
        have HF := Lib.hid hF
        clear hF
        go_wp2_with (first | (with_reducible refine wpList_load_mid rfl 83 (.tmp 4) rfl (w.heap.size + 1) 0 rfl (mcells (rowsF l) l.length) _ (M3).range isM isMrow (infoM _ _) ?_) | (with_reducible refine wpList_store_mid rfl 83 (.tmp 2) (.tmp 36) rfl (w.heap.size) 0 (mcells (rowsF l) l.length).toArray rfl rfl (by simpa [mcells_len] using (Z3).there) (by simpa using infoM _ _) (all_oneCell_toArray (mcells_one _ _)) ?_))
        exact bodyPost_ret (v := .tuple #[.agg (mcells (rowsF l) l.length).toArray, .int .i64 0]) (results_mat rfl _ _ w.heap.size 83 (mcells (rowsF l) l.length).toArray (0, 0) _ _ rfl rfl Z3.store isM isMrow (by simpa using infoM _ _)) rfl ⟨by rw [HF.out], below_setCells hB3 hB3.size (by simp) _ _⟩
end Go.Proofs.Ytlbjcmiegbejdaa.Q
