/- Plain words on sets of small numbers as numbers, and on closures of relations by way of each member. No program here. -/
import Derived.Test.YtlbjcmiegbejdaaProg
import Derived.RangeFuncBox
import Derived.RangeFuncNested
import Derived.RangeFuncLeaves
import Derived.RangeFuncFrom
import Derived.Shelf.Abstract
import Derived.WalkKit
import Derived.OwnWalkIn
import Derived.TacticsInMore
import Derived.LoopNIn
import Derived.LoopIn
import Derived.Maps.AppendAt
import Derived.Laws.BitsLemmas
import Derived.Lib.Hide
import Derived.KernelRfl
namespace Go.Proofs.Ytlbjcmiegbejdaa.Bm
/-- The number whose bits below n are those that p tells. -/
def ofP (p : Nat → Bool) : Nat → Nat
  | 0 => 0
  | n + 1 => ofP p n + (if p n then 2 ^ n else 0)
theorem ofP_lt (p : Nat → Bool) : ∀ n, ofP p n < 2 ^ n
  | 0 => by simp [ofP]
  | n + 1 => by
    have h := ofP_lt p n
    have e : 2 ^ (n + 1) = 2 ^ n + 2 ^ n := by rw [Nat.pow_succ]; omega
    simp only [ofP]
    split <;> omega
theorem add_two_pow_or {a n : Nat} (h : a < 2 ^ n) : a + 2 ^ n = a ||| 2 ^ n := by
  have := Nat.two_pow_add_eq_or_of_lt h 1
  rw [Nat.mul_one] at this
  rw [Nat.add_comm, this]
  apply Nat.eq_of_testBit_eq
  intro i
  rw [Nat.testBit_or, Nat.testBit_or, Bool.or_comm]
theorem testBit_ofP (p : Nat → Bool) : ∀ n i, (ofP p n).testBit i = (decide (i < n) && p i)
  | 0, i => by simp [ofP]
  | n + 1, i => by
    have ih := testBit_ofP p n i
    have hl := ofP_lt p n
    simp only [ofP]
    by_cases hp : p n
    · rw [if_pos hp, add_two_pow_or hl, Nat.testBit_or, ih, Nat.testBit_two_pow]
      by_cases hi : i < n
      · have : n ≠ i := by omega
        simp [hi, this, show i < n + 1 by omega]
      · by_cases he : n = i
        · subst he; simp [hp]
        · simp [hi, he, show ¬ i < n + 1 by omega]
    · rw [if_neg hp, Nat.add_zero, ih]
      by_cases hi : i < n
      · simp [hi, show i < n + 1 by omega]
      · by_cases he : n = i
        · subst he; simp [hp]
        · simp [hi, show ¬ i < n + 1 by omega]
theorem bits_eq {a b : Nat} (n : Nat) (ha : a < 2 ^ n) (hb : b < 2 ^ n) (h : ∀ i, i < n → a.testBit i = b.testBit i) : a = b := by
  apply Nat.eq_of_testBit_eq
  intro i
  by_cases hi : i < n
  · exact h i hi
  · have hp : 2 ^ n ≤ 2 ^ i := Nat.pow_le_pow_right (by decide) (by omega)
    rw [Nat.testBit_lt_two_pow (Nat.lt_of_lt_of_le ha hp), Nat.testBit_lt_two_pow (Nat.lt_of_lt_of_le hb hp)]
/-- One round of the closure: rows that have w get w's row. -/
def winner (R : Nat → Nat) (w m : Nat) : Nat → Nat := fun i => if i < m ∧ (R i).testBit w = true then R i ||| R w else R i
def wstart (R : Nat → Nat) (m : Nat) : Nat → Nat := fun i => if i < m then R i ||| 2 ^ i else R i
def wouter (R : Nat → Nat) (n : Nat) : Nat → (Nat → Nat)
  | 0 => wstart R n
  | w + 1 => winner (wouter R n w) w n
theorem winner_self (R : Nat → Nat) (w m : Nat) : winner R w m w = R w := by
  unfold winner; split
  · simp
  · rfl
theorem winner_step (R : Nat → Nat) (w m : Nat) : winner R w (m + 1) = fun i => if i = m then (if (winner R w m m).testBit w then winner R w m m ||| winner R w m w else winner R w m m) else winner R w m i := by
  funext i
  by_cases hi : i = m
  · subst hi
    have e : winner R w i i = R i := by unfold winner; rw [if_neg (by omega)]
    rw [if_pos rfl, e, winner_self]
    unfold winner
    by_cases hb : (R i).testBit w = true
    · rw [if_pos ⟨by omega, hb⟩, if_pos hb]
    · rw [if_neg (fun h => hb h.2), if_neg hb]
  · rw [if_neg hi]
    unfold winner
    by_cases hm : i < m
    · simp [hm, show i < m + 1 by omega]
    · simp [hm, show ¬ i < m + 1 by omega]
theorem wouter_lt {R : Nat → Nat} {n b : Nat} (hnb : n ≤ b) (h : ∀ i, R i < 2 ^ b) : ∀ w i, wouter R n w i < 2 ^ b
  | 0, i => by
    unfold wouter wstart
    split
    · exact Nat.or_lt_two_pow (h i) (Nat.pow_lt_pow_right (by decide) (by omega))
    · exact h i
  | w + 1, i => by
    unfold wouter winner
    split
    · exact Nat.or_lt_two_pow (wouter_lt hnb h w i) (wouter_lt hnb h w w)
    · exact wouter_lt hnb h w i
theorem T_succ {R : Nat → Nat} {n w i k : Nat} (hi : i < n) : (wouter R n (w + 1) i).testBit k = ((wouter R n w i).testBit k || ((wouter R n w i).testBit w && (wouter R n w w).testBit k)) := by
  show (winner (wouter R n w) w n i).testBit k = _
  unfold winner
  by_cases hb : (wouter R n w i).testBit w = true
  · rw [if_pos ⟨hi, hb⟩, Nat.testBit_or, hb]; simp
  · rw [if_neg (fun h => hb h.2)]; simp [hb]
theorem T_mid {R : Nat → Nat} {n : Nat} : ∀ w, w ≤ n → ∀ i j k, i < n → j < w → (wouter R n w i).testBit j = true → (wouter R n w j).testBit k = true → (wouter R n w i).testBit k = true
  | 0, _, _, _, _, _, hj, _, _ => absurd hj (by omega)
  | w + 1, hw, i, j, k, hi, hj, h1, h2 => by
    have ih := T_mid (R := R) (n := n) w (by omega)
    rw [T_succ hi] at h1 ⊢
    rw [T_succ (by omega)] at h2
    simp only [Bool.or_eq_true, Bool.and_eq_true] at h1 h2 ⊢
    by_cases hjw : j = w
    · subst hjw
      have a : (wouter R n j i).testBit j = true := by rcases h1 with h | h; exact h; exact h.1
      have b : (wouter R n j j).testBit k = true := by rcases h2 with h | h; exact h; exact h.2
      exact .inr ⟨a, b⟩
    · have hjl : j < w := by omega
      rcases h1 with h1 | ⟨h1, h1'⟩
      · rcases h2 with h2 | ⟨h2, h2'⟩
        · exact .inl (ih i j k hi hjl h1 h2)
        · exact .inr ⟨ih i j w hi hjl h1 h2, h2'⟩
      · rcases h2 with h2 | ⟨h2, h2'⟩
        · exact .inr ⟨h1, ih w j k (by omega) hjl h1' h2⟩
        · exact .inr ⟨h1, h2'⟩
theorem T_mono {R : Nat → Nat} {n i k : Nat} (hi : i < n) (h : (wstart R n i).testBit k = true) : ∀ w, (wouter R n w i).testBit k = true
  | 0 => h
  | w + 1 => by rw [T_succ hi, T_mono hi h w]; rfl
theorem T_refl {R : Nat → Nat} {n i : Nat} (hi : i < n) (w : Nat) : (wouter R n w i).testBit i = true :=
  T_mono hi (by unfold wstart; rw [if_pos hi, Nat.testBit_or, Nat.testBit_two_pow]; simp) w
theorem T_base {R : Nat → Nat} {n i k : Nat} (hi : i < n) (h : (R i).testBit k = true) (w : Nat) : (wouter R n w i).testBit k = true :=
  T_mono hi (by unfold wstart; rw [if_pos hi, Nat.testBit_or, h]; rfl) w
theorem T_least {R : Nat → Nat} {n : Nat} (S : Nat → Nat → Prop) (hr : ∀ i, i < n → S i i) (hb : ∀ i k, i < n → (R i).testBit k = true → S i k) (ht : ∀ i j k, i < n → j < n → S i j → S j k → S i k) :
    ∀ w, w ≤ n → ∀ i k, i < n → (wouter R n w i).testBit k = true → S i k
  | 0, _, i, k, hi, h => by
    have h' : (wstart R n i).testBit k = true := h
    unfold wstart at h'
    rw [if_pos hi, Nat.testBit_or, Nat.testBit_two_pow] at h'
    simp only [Bool.or_eq_true, decide_eq_true_eq] at h'
    rcases h' with h' | h'
    · exact hb i k hi h'
    · subst h'; exact hr i hi
  | w + 1, hw, i, k, hi, h => by
    have ih := T_least S hr hb ht w (by omega)
    rw [T_succ hi] at h
    simp only [Bool.or_eq_true, Bool.and_eq_true] at h
    rcases h with h | ⟨h1, h2⟩
    · exact ih i k hi h
    · exact ht i w k hi (by omega) (ih i w hi h1) (ih w k (by omega) h2)
/-- A set that has, with a member, all of that member's row. -/
def Closed (R : Nat → Nat) (n C : Nat) : Prop := ∀ i, i < n → C.testBit i = true → ∀ k, (R i).testBit k = true → C.testBit k = true
theorem T_closed {R : Nat → Nat} {n i : Nat} (hi : i < n) : Closed R n (wouter R n n i) := fun j hj h k hk => T_mid n (Nat.le_refl _) i j k hi hj h (T_base hj hk n)
theorem T_in {R : Nat → Nat} {n i k C : Nat} (hi : i < n) (h : (wouter R n n i).testBit k = true) (hC : Closed R n C) (hCi : C.testBit i = true) : C.testBit k = true :=
  T_least (R := R) (n := n) (fun i k => ∀ C, Closed R n C → C.testBit i = true → C.testBit k = true) (fun _ _ _ _ h => h) (fun i k hi hk _ hC hCi => hC i hi hCi k hk) (fun _ _ _ _ _ h1 h2 C hC hCi => h2 C hC (h1 C hC hCi)) n (Nat.le_refl _) i k hi h C hC hCi
end Go.Proofs.Ytlbjcmiegbejdaa.Bm

/- Layer 1: a set's members are told one by one, rising: the iterator's contract. -/
namespace Go.Proofs.Ytlbjcmiegbejdaa.Q
open Go.RowKit Go.Shelf
attribute [local go_sem] Oper.semAt_some
set_option linter.unusedVariables false
set_option linter.unusedSimpArgs false
/-- The members of a set that are below k, rising. -/
def pfx (s : Nat) : Nat → List (Fin 64)
  | 0 => []
  | k + 1 => pfx s k ++ (if h : k < 64 then (if s.testBit k then [⟨k, h⟩] else []) else [])
theorem pfx_length (s : Nat) : ∀ k, (pfx s k).length ≤ k
  | 0 => by simp [pfx]
  | k + 1 => by
    have := pfx_length s k
    simp only [pfx, List.length_append]
    split
    · split <;> simp <;> omega
    · simp; omega
theorem pfx_yes {s k : Nat} (hk : k < 64) (h : s.testBit k = true) : pfx s (k + 1) = pfx s k ++ [⟨k, hk⟩] := by simp [pfx, hk, h]
theorem pfx_no {s k : Nat} (h : s.testBit k = false) : pfx s (k + 1) = pfx s k := by simp [pfx, h]
theorem pfx_next (s k : Nat) : pfx s k <+: pfx s (k + 1) := by simp only [pfx]; exact List.prefix_append _ _
theorem pfx_prefix (s : Nat) : ∀ d k, pfx s k <+: pfx s (k + d)
  | 0, k => List.prefix_refl _
  | d + 1, k => (pfx_prefix s d k).trans (pfx_next s (k + d))
theorem pfx_to (s : Nat) {k : Nat} (h : k ≤ 64) : pfx s k <+: pfx s 64 := by
  have := pfx_prefix s (64 - k) k
  rwa [show k + (64 - k) = 64 by omega] at this
theorem pfx_val (s : Nat) : ∀ k, k ≤ 64 → (pfx s k).map (fun x => x.val) = (List.range k).filter fun i => s.testBit i
  | 0, _ => by simp [pfx]
  | k + 1, h => by
    rw [List.range_succ, List.filter_append, ← pfx_val s k (by omega)]
    cases hb : s.testBit k
    · rw [pfx_no hb]; simp [hb]
    · rw [pfx_yes (by omega) hb]; simp [hb]
theorem and_two_pow' (s i : Nat) : s &&& 2 ^ i = if s.testBit i then 2 ^ i else 0 := by
  apply Nat.eq_of_testBit_eq
  intro j
  rw [Nat.testBit_and, Nat.testBit_two_pow]
  by_cases h : i = j
  · subst h
    cases hb : s.testBit i <;> simp
  · cases hb : s.testBit i <;> simp [h]
theorem and_pow (s i : Nat) (hs : s < 2 ^ 64) (hi : i < 64) : bits .and .u64 (s : Int) ((2 ^ i : Nat) : Int) = if s.testBit i then ((2 ^ i : Nat) : Int) else 0 := by
  have hw : ∀ n : Int, 0 ≤ n → n < 2 ^ 64 → IntKind.u64.wrap n = n := fun n h0 h1 => by simp [IntKind.wrap, IntKind.bits, IntKind.signed]; omega
  have hp : 2 ^ i < 2 ^ 64 := Nat.pow_lt_pow_right (by decide) hi
  rw [(bits_nat .u64 64 (by decide) hw s (2 ^ i) hs hp).1, and_two_pow' s i]
  cases s.testBit i <;> simp
theorem pow_ne (i : Nat) : ((2 ^ i : Nat) : Int) ≠ 0 := by have := Nat.two_pow_pos i; omega
theorem wrap_pow {i : Nat} (hi : i < 64) : IntKind.u64.wrap ((2 : Int) ^ i) = ((2 ^ i : Nat) : Int) := by
  have hp : 2 ^ i < 2 ^ 64 := Nat.pow_lt_pow_right (by decide) hi
  have e : ((2 : Int) ^ i) = ((2 ^ i : Nat) : Int) := by simp
  rw [e]
  generalize 2 ^ i = m at *
  simp [IntKind.wrap, IntKind.bits, IntKind.signed]
  omega
theorem vret_u {a b : Int} (h : a = b) : Ending.returned (.int .u64 a) = .returned (.int .u64 b) := by rw [h]
theorem vret_b {a b : Bool} (h : a = b) : Ending.returned (.bool a) = .returned (.bool b) := by rw [h]
set_option maxHeartbeats 1000000 in
theorem one_in (F : Fence) (n : Nat) (hf : F.fn 75) (hro : F.round = none) (i : Nat) (hi : i < 64) (w : World) : CallsIn F n Try.prog 75 #[.int .i64 i] w fun e w' => e = .returned (.int .u64 ((2 ^ i : Nat) : Int)) ∧ w = w' := by
  have h0 : (0 : Int) ≤ (i : Int) := by omega
  have h1 : (i : Int) < 64 := by omega
  refine callsIn_of_wp Try.func75 rfl hf ?_ hro
  simp only [Try.ntmps75, List.size_toArray, List.length_cons, List.length_nil, Nat.reduceAdd, Nat.reduceSub, Array.replicate_succ, Array.replicate_zero, List.push_toArray, List.append_toArray, List.nil_append, List.cons_append]
  gi_wp2
  go_ret
  exact ⟨vret_u (wrap_pow hi), rfl⟩
/-- Has a set a member? -/
def hasB (s : Nat) (i : Int) : Bool := decide (0 ≤ i) && decide (i < 64) && s.testBit i.toNat
set_option maxHeartbeats 1000000 in
theorem has_in (F : Fence) (n : Nat) (hf : F.fn 76) (hf1 : F.fn 75) (hro : F.round = none) (hn : 1 ≤ n) (s i : Nat) (hs : s < 2 ^ 64) (hi : i < 64) (w : World) : CallsIn F n Try.prog 76 #[.int .u64 s, .int .i64 i] w fun e w' => e = .returned (.bool (s.testBit i)) ∧ w = w' := by
  have h0 : decide ((i : Int) ≥ 0) = true := decide_eq_true (by omega)
  have h0' : (0 : Int) ≤ (i : Int) := by omega
  have h1 : decide ((i : Int) < 64) = true := decide_eq_true (by omega)
  have h1' : (i : Int) < 64 := by omega
  have hand := and_pow s i hs hi
  have hpne := pow_ne i
  generalize hm : ((2 ^ i : Nat) : Int) = m at hand hpne
  have Hm := Lib.hid hm
  have Ha := Lib.hid hand
  have Hp := Lib.hid hpne
  clear hm hand hpne
  refine callsIn_of_wp Try.func76 rfl hf ?_ hro
  simp only [Try.ntmps76, List.size_toArray, List.length_cons, List.length_nil, Nat.reduceAdd, Nat.reduceSub, Array.replicate_succ, Array.replicate_zero, List.push_toArray, List.append_toArray, List.nil_append, List.cons_append]
  gi_wp2_with (gi_at_call 75; refine (one_in F _ hf1 hro i hi _).mono ?_; rintro e w' ⟨rfl, rfl⟩; rw [Hm.out])
  go_ret
  refine ⟨vret_b ?_, rfl⟩
  show (bits BinOp.and IntKind.u64 (↑s) m != 0) = s.testBit i
  rw [Ha.out]
  have := Hp.out
  cases s.testBit i
  · rfl
  · simpa using this
/-- A block's first cell is as it was. -/
def KC (B : Nat) (W W' : World) : Prop := W'.cell? ⟨B, 0, none⟩ = W.cell? ⟨B, 0, none⟩
theorem KC_t {B : Nat} {X Y Z : World} (h : KC B X Y) (k : KC B Y Z) : KC B X Z := Eq.trans k h
theorem KC_b {w : World} {B : Nat} (h : B < w.heap.size) (W : World) (l : Nat) (o o' : Obj) (hl : w.heap.size ≤ l) (_ : W.heap[l]? = some o) (_ : o.isCells = false) (_ : o.isWalk = false) : KC B W (W.putObj l o') := by
  have e := World.putObj_heap_other (w := W) (r := l) (k := B) (o := o') (by omega)
  unfold KC World.cell?
  rw [e]
theorem KC_of {B : Nat} {t : TypeId} {v : Value} {W W' : World} (h : Boxed W B t v) (h' : Boxed W' B t v) : KC B W W' := h'.cell.trans h.cell.symm
set_option maxRecDepth 100000 in
set_option maxHeartbeats 2000000 in
theorem all1_in (F : Fence) (n : Nat) (hf : F.fn 77) (hfh : F.fn 76) (hfo : F.fn 75) (hro : F.round = none) (hn : 2 ≤ n) (l Bs s : Nat) (hs : s < 2 ^ 64) (J Jx : List (Fin 64) → World → Prop)
    (hY : ∀ pre x W, J pre W → pre.length < 64 → YieldAt F (n - 1) Try.prog l #[.int .i64 ((x : Fin 64).val : Nat)] W fun e W' =>
      (e = .returned (.bool true) ∧ J (pre ++ [x]) W' ∧ KC Bs W W') ∨ (e = .returned (.bool false) ∧ Jx (pre ++ [x]) W'))
    (W : World) (hc : W.cell? ⟨Bs, 0, none⟩ = some (.int .u64 s)) (h0 : J [] W) :
    CallsIn F n Try.prog 77 #[.func (.yield l) #[] #[], .pointer (some ⟨Bs, 0, none⟩)] W fun e W' => (∃ v, e = .returned v) ∧
      ((∃ ys, pfx s 64 = ys ∧ J ys W') ∨ (∃ pre, pre <+: pfx s 64 ∧ Jx pre W')) := by
  have h1n : 1 ≤ n := by omega
  refine callsIn_of_wp Try.func77 rfl hf ?_ hro
  simp only [Try.ntmps77, List.size_toArray, List.length_cons, List.length_nil, Nat.reduceAdd, Nat.reduceSub, Array.replicate_succ, Array.replicate_zero, List.push_toArray, List.append_toArray, List.nil_append, List.cons_append]
  gi_wp2
  gi_loopw [4] (fun i wr => ∃ k : Nat, k ≤ 64 ∧ i = .int .i64 k ∧ J (pfx s k) wr ∧ wr.cell? ⟨Bs, 0, none⟩ = some (.int .u64 s))
    (fun i _ => 64 - (intOf i).toNat)
  case atStart => exact ⟨0, Nat.zero_le _, rfl, h0, hc⟩
  case round =>
    obtain ⟨k, hk, rfl, hJs, hcw⟩ := hrel
    by_cases hlt : k < 64
    · cases hb : s.testBit k with
      | true =>
        obtain ⟨fn, tmps, assign, body, hy, hR⟩ := hY _ ⟨k, hlt⟩ wr hJs (by have := pfx_length s k; omega)
        dsimp only at hy
        have Hb := Lib.hid hb
        clear hb
        have hb' := @has_in F (n - 1) hfh hfo hro (by omega) s k hs hlt
        have HB := Lib.hid hb'
        clear hb'
        have hk1 : decide ((k : Int) < 64) = true := decide_eq_true (by omega)
        gi_wp2_with (gi_at_call 76; refine (HB.out _).mono ?_; rintro e w' ⟨rfl, rfl⟩; rw [Hb.out])
        refine hR.mono ?_
        rintro e W3 (⟨rfl, hJ3, hk3⟩ | ⟨rfl, hJx3⟩)
        · have hq3 : W3.cell? ⟨Bs, 0, none⟩ = some (.int .u64 s) := hk3.trans hcw
          gi_wp2
          go_roundw
          case rel => exact ⟨k + 1, by omega, by go_num, by rw [pfx_yes hlt Hb.out]; exact hJ3, hq3⟩
          case measure => simp [intOf]; omega
        · gi_wp2
          refine bodyPost_ret (results_none rfl _ _ _) rfl ?_
          exact ⟨⟨_, rfl⟩, .inr ⟨_, by have h_ := pfx_to s (show k + 1 ≤ 64 by omega); rwa [pfx_yes hlt Hb.out] at h_, hJx3⟩⟩
      | false =>
        have Hb := Lib.hid hb
        clear hb
        have hb' := @has_in F (n - 1) hfh hfo hro (by omega) s k hs hlt
        have HB := Lib.hid hb'
        clear hb'
        have hk1 : decide ((k : Int) < 64) = true := decide_eq_true (by omega)
        gi_wp2_with (gi_at_call 76; refine (HB.out _).mono ?_; rintro e w' ⟨rfl, rfl⟩; rw [Hb.out])
        refine ⟨fun _ h => (by cases h), ?_⟩
        gi_wp2
        go_roundw
        case rel => exact ⟨k + 1, by omega, by go_num, by rw [pfx_no Hb.out]; exact hJs, hcw⟩
        case measure => simp [intOf]; omega
    · obtain rfl : k = 64 := by omega
      gi_wp2
      go_end0
      exact ⟨⟨_, rfl⟩, .inl ⟨_, rfl, hJs⟩⟩
set_option maxHeartbeats 1000000 in
theorem all_in (F : Fence) (n : Nat) (hf : F.fn 71) (hro : F.round = none) (s : Int) (w : World) :
    CallsIn F n Try.prog 71 #[.int .u64 s] w fun e w' => e = .returned (.func (.func 77) #[] #[.pointer (some ⟨w.heap.size, 0, none⟩)]) ∧ w' = w.alloc (.cells #[.int .u64 s] 33) := by
  refine callsIn_of_wp Try.func71 rfl hf ?_ hro
  simp only [Try.ntmps71, List.size_toArray, List.length_cons, List.length_nil, Nat.reduceAdd, Nat.reduceSub, Array.replicate_succ, Array.replicate_zero, List.push_toArray, List.append_toArray, List.nil_append, List.cons_append]
  gi_wp2
  go_ret
  exact ⟨rfl, rfl⟩
theorem all_stops (F : Fence) (n : Nat) (hf : F.fn 77) (hfh : F.fn 76) (hfo : F.fn 75) (hro : F.round = none) (hn : 2 ≤ n) (Bs s : Nat) (hs : s < 2 ^ 64) (w : World) (hBs : Bs < w.heap.size)
    (hc : w.cell? ⟨Bs, 0, none⟩ = some (.int .u64 s)) :
    SeqStopsK F n Try.prog 77 #[.pointer (some ⟨Bs, 0, none⟩)] (fun x : Fin 64 => #[Value.int .i64 (x.val : Nat)]) (KC Bs) (fun ys => pfx s 64 = ys) (fun pre => pre <+: pfx s 64) 64 w := fun l J Jx W hW _ _ hY h0 =>
  all1_in F n hf hfh hfo hro hn l Bs s hs J Jx hY W ((hW.cell (p := ⟨Bs, 0, none⟩) hBs).trans hc) h0
end Go.Proofs.Ytlbjcmiegbejdaa.Q
