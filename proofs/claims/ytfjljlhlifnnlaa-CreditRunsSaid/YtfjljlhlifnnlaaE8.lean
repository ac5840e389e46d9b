/- Layer 13: acts run one by one: what credit.Run comes to. -/
import Derived.Test.YtfjljlhlifnnlaaE6
namespace Go.Proofs.Ytfjljlhlifnnlaa.Q
open Go.RowKit
set_option linter.unusedVariables false
set_option linter.unusedSimpArgs false
/-- The account behind the first k acts, if none of them told an error. -/
def st (kf qf : Nat → Int) (a b c : Int) : Nat → Int × Int × Int
  | 0 => (a, b, c)
  | k + 1 => ((actR (kf k) (qf k) (st kf qf a b c k).1 (st kf qf a b c k).2.1 (st kf qf a b c k).2.2).1, (actR (kf k) (qf k) (st kf qf a b c k).1 (st kf qf a b c k).2.1 (st kf qf a b c k).2.2).2.1, (actR (kf k) (qf k) (st kf qf a b c k).1 (st kf qf a b c k).2.1 (st kf qf a b c k).2.2).2.2.1)
/-- What act k tells. -/
def er (kf qf : Nat → Int) (a b c : Int) (k : Nat) : Int := (actR (kf k) (qf k) (st kf qf a b c k).1 (st kf qf a b c k).2.1 (st kf qf a b c k).2.2).2.2.2
theorem st_next {kf qf : Nat → Int} {a b c x y z r1 r2 r3 r4 : Int} {k : Nat} (hs : st kf qf a b c k = (x, y, z)) (hr : actR (kf k) (qf k) x y z = (r1, r2, r3, r4)) : st kf qf a b c (k + 1) = (r1, r2, r3) ∧ er kf qf a b c k = r4 := by
  constructor
  · rw [st, hs, hr]
  · rw [er, hs, hr]
/-- Cell i behind ad holds the act's function value. -/
def FuncAt (w : World) (ad : Addr) (i : Nat) (k q : Int) : Prop :=
  ∃ g : Nat, w.cell? (ad.add i) = some (.func (.func 35) #[] #[.pointer (some ⟨g, 0, none⟩)]) ∧ g < w.heap.size ∧ w.cell? ⟨g, 0, none⟩ = some (.int .i64 k) ∧ w.cell? ⟨g, 1, none⟩ = some (.int .i64 q)
theorem eqFunc (g : Nat) (W : World) : (binOp .eql 29 (.func (.func 35) #[] #[.pointer (some ⟨g, 0, none⟩)]) .nilFunc).run Try.prog W = .ok (.bool false) W := by first | kernel_rfl | rfl | simp [go_sem]
theorem eqNil (W : World) : (binOp .eql 29 .nilFunc .nilFunc).run Try.prog W = .ok (.bool true) W := by first | kernel_rfl | rfl | simp [go_sem]
theorem FuncAt.below {w W : World} {ad : Addr} {i : Nat} {k q : Int} (h : FuncAt w ad i k q) (hb : Below w.heap.size w W) : FuncAt W ad i k q := by
  obtain ⟨g, h1, h2, h3, h4⟩ := h
  exact ⟨g, vcell hb h1, Nat.lt_of_lt_of_le h2 hb.size, vcell hb h3, vcell hb h4⟩

set_option maxHeartbeats 1000000 in
set_option maxRecDepth 100000 in
theorem run23_ok (a b c : Int) (A : Option Addr) (N cap : Nat) (kf qf : Nat → Int) (hN : N ≤ 9223372036854775807) (w : World) (hA : 0 < N → ∃ ad, A = some ad ∧ ∀ i, i < N → FuncAt w ad i (kf i) (qf i)) (he : ∀ i, i < N → er kf qf a b c i = 0) (x y z : Int) (hs : st kf qf a b c N = (x, y, z)) :
    Calls Try.prog 23 #[.agg #[.int .i64 a, .int .i64 b, .int .i64 c], .slice A N cap] w fun e w' => e = .returned (.tuple #[.agg #[.int .i64 x, .int .i64 y, .int .i64 z], .int .i64 N, .int .i64 0]) ∧ Below w.heap.size w w' := by
  have HA := Lib.hid hA
  have HE := Lib.hid he
  have HS := Lib.hid hs
  clear hA he hs
  go_enter Try.func23, Try.ntmps23
  go_wp2_with fail
  go_loopw [13] (fun i wr => ∃ (k : Nat) (x1 y1 z1 : Int), k ≤ N ∧ i = .int .i64 k ∧ st kf qf a b c k = (x1, y1, z1) ∧ wr.cell? ⟨w.heap.size, 0, none⟩ = some (.int .i64 x1) ∧ wr.cell? ⟨w.heap.size, 1, none⟩ = some (.int .i64 y1) ∧ wr.cell? ⟨w.heap.size, 2, none⟩ = some (.int .i64 z1) ∧ wr.cell? ⟨w.heap.size + 1, 0, none⟩ = some (.int .i64 0) ∧ wr.cell? ⟨w.heap.size + 1, 1, none⟩ = some (.int .i64 0) ∧ wr.cell? ⟨w.heap.size + 1, 2, none⟩ = some (.int .i64 0) ∧ (∀ o, wr.frozen? ⟨w.heap.size, o, none⟩ = false) ∧ (∀ o, wr.frozen? ⟨w.heap.size + 1, o, none⟩ = false) ∧ w.heap.size + 1 < wr.heap.size ∧ Below w.heap.size w wr)
    (fun i _ => N - (intOf i).toNat)
  case atStart =>
    refine ⟨0, a, b, c, by omega, rfl, rfl, by simp [go_sem], by simp [go_sem], by simp [go_sem], by simp [go_sem], by simp [go_sem], by simp [go_sem], fun o => by simp [go_sem], fun o => by simp [go_sem], by simp, ?_⟩
    exact vbelow_alloc (vbelow_alloc (Below.refl _ _) _) _
  case round =>
    obtain ⟨k, x1, y1, z1, hk, rfl, hs1, g0, g1, g2, d0, d1, d2, f0, f1, hsz, HBr⟩ := hrel
    have HS1 := Lib.hid hs1
    clear hs1
    by_cases hlt : k < N
    · obtain ⟨ad, rfl, hcell⟩ := HA.out (by omega)
      have hFk := (hcell k (by omega)).below HBr
      obtain ⟨g, c0, hgl, e0, e1⟩ := hFk
      clear hcell
      have hk1 : decide ((k : Int) < (N : Int)) = true := decide_eq_true (by omega)
      have hk2 : decide (k < N) = true := decide_eq_true (by omega)
      obtain ⟨r1, r2, r3, r4, hR⟩ : ∃ v1 v2 v3 v4, actR (kf k) (qf k) x1 y1 z1 = (v1, v2, v3, v4) := ⟨_, _, _, _, rfl⟩
      obtain ⟨hst, her⟩ := st_next HS1.out hR
      have h4 := HE.out k hlt
      rw [her] at h4
      subst h4
      have hne : ((0 : Int) != 0) = false := rfl
      have HR := Lib.hid hR
      have HT := Lib.hid hst
      clear hR hst her
      have l2 : ∀ m : Nat, m < m + 1 + 1 := fun m => by omega
      have hef := eqFunc g wr
      go_wp2_with fail
      refine (act35 (kf k) (qf k) x1 y1 z1 r1 r2 r3 0 HR.out wr g hgl e0 e1).mono ?_
      rintro e w1 ⟨rfl, hb1⟩
      have HB1 : Below w.heap.size w w1 := vbelow_next hb1 HBr
      have g0' := vcell hb1 g0
      have g1' := vcell hb1 g1
      have g2' := vcell hb1 g2
      have d0' := vcell hb1 d0
      have d1' := vcell hb1 d1
      have d2' := vcell hb1 d2
      have f0' : ∀ o, w1.frozen? ⟨w.heap.size, o, none⟩ = false := fun o => (hb1.frozen (p := ⟨w.heap.size, o, none⟩) (by dsimp only; omega)).trans (f0 o)
      have f1' : ∀ o, w1.frozen? ⟨w.heap.size + 1, o, none⟩ = false := fun o => (hb1.frozen (p := ⟨w.heap.size + 1, o, none⟩) (by dsimp only; omega)).trans (f1 o)
      have hz1 : w.heap.size + 1 < w1.heap.size := Nat.lt_of_lt_of_le hsz hb1.size
      have hz2 : w.heap.size < w1.heap.size := by omega
      have n1 : ¬ (w1.heap.size = w.heap.size) := by omega
      have n2 : ¬ (w1.heap.size = w.heap.size + 1) := by omega
      have n3 : ¬ (w.heap.size = w1.heap.size) := by omega
      have n4 : ¬ (w.heap.size + 1 = w1.heap.size) := by omega
      clear g0 g1 g2 d0 d1 d2 f0 f1 c0 e0 e1 hb1
      go_wp2
      go_roundw
      case rel => exact ⟨k + 1, r1, r2, r3, by omega, by go_num, HT.out, by simp [go_sem, *], by simp [go_sem, *], by simp [go_sem, *], by simp [go_sem, *], by simp [go_sem, *], by simp [go_sem, *], fun o => by simp [go_sem, *], fun o => by simp [go_sem, *], by (try simp only [World.size_setCell, World.size_alloc]); omega, (by repeat (first | (with_reducible assumption) | (with_reducible exact Below.refl _ _) | (with_reducible refine vbelow_alloc ?_ _) | (with_reducible refine vbelow_set ?_ (by first | exact Nat.le_refl _ | (dsimp only; omega) | omega))))⟩
      case measure => simp [intOf]; omega
    · obtain rfl : k = N := by omega
      obtain ⟨rfl, rfl, rfl⟩ : x1 = x ∧ y1 = y ∧ z1 = z := by have h_ := HS1.out.symm.trans HS.out; simpa using h_
      go_wp2
      refine bodyPost_ret (v := .tuple #[.agg #[.int .i64 x1, .int .i64 y1, .int .i64 z1], .int .i64 k, .int .i64 0]) (by simp [results, Try.results23, go_sem, *]) rfl ⟨rfl, (by repeat (first | (with_reducible assumption) | (with_reducible exact Below.refl _ _) | (with_reducible refine vbelow_alloc ?_ _) | (with_reducible refine vbelow_set ?_ (by first | exact Nat.le_refl _ | (dsimp only; omega) | omega))))⟩

set_option maxHeartbeats 1000000 in
set_option maxRecDepth 100000 in
theorem run23_nil (a b c : Int) (A : Option Addr) (N cap : Nat) (j : Nat) (kf qf : Nat → Int) (hN : N ≤ 9223372036854775807) (w : World) (hj : j < N) (hA : 0 < N → ∃ ad, A = some ad ∧ (∀ i, i < j → FuncAt w ad i (kf i) (qf i)) ∧ w.cell? (ad.add j) = some .nilFunc) (he : ∀ i, i < j → er kf qf a b c i = 0) (x y z : Int) (hs : st kf qf a b c j = (x, y, z)) :
    Calls Try.prog 23 #[.agg #[.int .i64 a, .int .i64 b, .int .i64 c], .slice A N cap] w fun e w' => e = .returned (.tuple #[.agg #[.int .i64 x, .int .i64 y, .int .i64 z], .int .i64 j, .int .i64 1]) ∧ Below w.heap.size w w' := by
  have HA := Lib.hid hA
  have HE := Lib.hid he
  have HS := Lib.hid hs
  clear hA he hs
  go_enter Try.func23, Try.ntmps23
  go_wp2_with fail
  go_loopw [13] (fun i wr => ∃ (k : Nat) (x1 y1 z1 : Int), k ≤ j ∧ i = .int .i64 k ∧ st kf qf a b c k = (x1, y1, z1) ∧ wr.cell? ⟨w.heap.size, 0, none⟩ = some (.int .i64 x1) ∧ wr.cell? ⟨w.heap.size, 1, none⟩ = some (.int .i64 y1) ∧ wr.cell? ⟨w.heap.size, 2, none⟩ = some (.int .i64 z1) ∧ wr.cell? ⟨w.heap.size + 1, 0, none⟩ = some (.int .i64 0) ∧ wr.cell? ⟨w.heap.size + 1, 1, none⟩ = some (.int .i64 0) ∧ wr.cell? ⟨w.heap.size + 1, 2, none⟩ = some (.int .i64 0) ∧ (∀ o, wr.frozen? ⟨w.heap.size, o, none⟩ = false) ∧ (∀ o, wr.frozen? ⟨w.heap.size + 1, o, none⟩ = false) ∧ w.heap.size + 1 < wr.heap.size ∧ Below w.heap.size w wr)
    (fun i _ => N - (intOf i).toNat)
  case atStart =>
    refine ⟨0, a, b, c, by omega, rfl, rfl, by simp [go_sem], by simp [go_sem], by simp [go_sem], by simp [go_sem], by simp [go_sem], by simp [go_sem], fun o => by simp [go_sem], fun o => by simp [go_sem], by simp, ?_⟩
    exact vbelow_alloc (vbelow_alloc (Below.refl _ _) _) _
  case round =>
    obtain ⟨k, x1, y1, z1, hk, rfl, hs1, g0, g1, g2, d0, d1, d2, f0, f1, hsz, HBr⟩ := hrel
    have HS1 := Lib.hid hs1
    clear hs1
    by_cases hlt : k < j
    · obtain ⟨ad, rfl, hcell, hnil⟩ := HA.out (by omega)
      have hFk := (hcell k (by omega)).below HBr
      obtain ⟨g, c0, hgl, e0, e1⟩ := hFk
      clear hcell hnil
      have hk1 : decide ((k : Int) < (N : Int)) = true := decide_eq_true (by omega)
      have hk2 : decide (k < N) = true := decide_eq_true (by omega)
      obtain ⟨r1, r2, r3, r4, hR⟩ : ∃ v1 v2 v3 v4, actR (kf k) (qf k) x1 y1 z1 = (v1, v2, v3, v4) := ⟨_, _, _, _, rfl⟩
      obtain ⟨hst, her⟩ := st_next HS1.out hR
      have h4 := HE.out k hlt
      rw [her] at h4
      subst h4
      have hne : ((0 : Int) != 0) = false := rfl
      have HR := Lib.hid hR
      have HT := Lib.hid hst
      clear hR hst her
      have l2 : ∀ m : Nat, m < m + 1 + 1 := fun m => by omega
      have hef := eqFunc g wr
      go_wp2_with fail
      refine (act35 (kf k) (qf k) x1 y1 z1 r1 r2 r3 0 HR.out wr g hgl e0 e1).mono ?_
      rintro e w1 ⟨rfl, hb1⟩
      have HB1 : Below w.heap.size w w1 := vbelow_next hb1 HBr
      have g0' := vcell hb1 g0
      have g1' := vcell hb1 g1
      have g2' := vcell hb1 g2
      have d0' := vcell hb1 d0
      have d1' := vcell hb1 d1
      have d2' := vcell hb1 d2
      have f0' : ∀ o, w1.frozen? ⟨w.heap.size, o, none⟩ = false := fun o => (hb1.frozen (p := ⟨w.heap.size, o, none⟩) (by dsimp only; omega)).trans (f0 o)
      have f1' : ∀ o, w1.frozen? ⟨w.heap.size + 1, o, none⟩ = false := fun o => (hb1.frozen (p := ⟨w.heap.size + 1, o, none⟩) (by dsimp only; omega)).trans (f1 o)
      have hz1 : w.heap.size + 1 < w1.heap.size := Nat.lt_of_lt_of_le hsz hb1.size
      have hz2 : w.heap.size < w1.heap.size := by omega
      have n1 : ¬ (w1.heap.size = w.heap.size) := by omega
      have n2 : ¬ (w1.heap.size = w.heap.size + 1) := by omega
      have n3 : ¬ (w.heap.size = w1.heap.size) := by omega
      have n4 : ¬ (w.heap.size + 1 = w1.heap.size) := by omega
      clear g0 g1 g2 d0 d1 d2 f0 f1 c0 e0 e1 hb1
      go_wp2
      go_roundw
      case rel => exact ⟨k + 1, r1, r2, r3, by omega, by go_num, HT.out, by simp [go_sem, *], by simp [go_sem, *], by simp [go_sem, *], by simp [go_sem, *], by simp [go_sem, *], by simp [go_sem, *], fun o => by simp [go_sem, *], fun o => by simp [go_sem, *], by (try simp only [World.size_setCell, World.size_alloc]); omega, (by repeat (first | (with_reducible assumption) | (with_reducible exact Below.refl _ _) | (with_reducible refine vbelow_alloc ?_ _) | (with_reducible refine vbelow_set ?_ (by first | exact Nat.le_refl _ | (dsimp only; omega) | omega))))⟩
      case measure => simp [intOf]; omega
    · obtain rfl : k = j := by omega
      obtain ⟨rfl, rfl, rfl⟩ : x1 = x ∧ y1 = y ∧ z1 = z := by have h_ := HS1.out.symm.trans HS.out; simpa using h_
      obtain ⟨ad, rfl, hcell, hnil⟩ := HA.out (by omega)
      have c0 := vcell HBr hnil
      have hef := eqNil wr
      clear hcell hnil
      have hk1 : decide ((k : Int) < (N : Int)) = true := decide_eq_true (by omega)
      have hk2 : decide (k < N) = true := decide_eq_true (by omega)
      go_wp2
      refine bodyPost_ret (v := .tuple #[.agg #[.int .i64 x1, .int .i64 y1, .int .i64 z1], .int .i64 k, .int .i64 1]) (by simp [results, Try.results23, go_sem, *]) rfl ⟨rfl, (by repeat (first | (with_reducible assumption) | (with_reducible exact Below.refl _ _) | (with_reducible refine vbelow_alloc ?_ _) | (with_reducible refine vbelow_set ?_ (by first | exact Nat.le_refl _ | (dsimp only; omega) | omega))))⟩

set_option maxHeartbeats 1000000 in
set_option maxRecDepth 100000 in
theorem run23_err (a b c : Int) (A : Option Addr) (N cap : Nat) (j : Nat) (kf qf : Nat → Int) (hN : N ≤ 9223372036854775807) (w : World) (hj : j < N) (hA : 0 < N → ∃ ad, A = some ad ∧ ∀ i, i ≤ j → FuncAt w ad i (kf i) (qf i)) (he : ∀ i, i < j → er kf qf a b c i = 0) (f : Int) (hf : er kf qf a b c j = f) (hf0 : (f != 0) = true) (x y z : Int) (hs : st kf qf a b c j = (x, y, z)) :
    Calls Try.prog 23 #[.agg #[.int .i64 a, .int .i64 b, .int .i64 c], .slice A N cap] w fun e w' => e = .returned (.tuple #[.agg #[.int .i64 x, .int .i64 y, .int .i64 z], .int .i64 j, .int .i64 f]) ∧ Below w.heap.size w w' := by
  have HA := Lib.hid hA
  have HE := Lib.hid he
  have HS := Lib.hid hs
  have HF := Lib.hid hf
  clear hA he hs hf
  go_enter Try.func23, Try.ntmps23
  go_wp2_with fail
  go_loopw [13] (fun i wr => ∃ (k : Nat) (x1 y1 z1 : Int), k ≤ j ∧ i = .int .i64 k ∧ st kf qf a b c k = (x1, y1, z1) ∧ wr.cell? ⟨w.heap.size, 0, none⟩ = some (.int .i64 x1) ∧ wr.cell? ⟨w.heap.size, 1, none⟩ = some (.int .i64 y1) ∧ wr.cell? ⟨w.heap.size, 2, none⟩ = some (.int .i64 z1) ∧ wr.cell? ⟨w.heap.size + 1, 0, none⟩ = some (.int .i64 0) ∧ wr.cell? ⟨w.heap.size + 1, 1, none⟩ = some (.int .i64 0) ∧ wr.cell? ⟨w.heap.size + 1, 2, none⟩ = some (.int .i64 0) ∧ (∀ o, wr.frozen? ⟨w.heap.size, o, none⟩ = false) ∧ (∀ o, wr.frozen? ⟨w.heap.size + 1, o, none⟩ = false) ∧ w.heap.size + 1 < wr.heap.size ∧ Below w.heap.size w wr)
    (fun i _ => N - (intOf i).toNat)
  case atStart =>
    refine ⟨0, a, b, c, by omega, rfl, rfl, by simp [go_sem], by simp [go_sem], by simp [go_sem], by simp [go_sem], by simp [go_sem], by simp [go_sem], fun o => by simp [go_sem], fun o => by simp [go_sem], by simp, ?_⟩
    exact vbelow_alloc (vbelow_alloc (Below.refl _ _) _) _
  case round =>
    obtain ⟨k, x1, y1, z1, hk, rfl, hs1, g0, g1, g2, d0, d1, d2, f0, f1, hsz, HBr⟩ := hrel
    have HS1 := Lib.hid hs1
    clear hs1
    by_cases hlt : k < j
    · obtain ⟨ad, rfl, hcell⟩ := HA.out (by omega)
      have hFk := (hcell k (by omega)).below HBr
      obtain ⟨g, c0, hgl, e0, e1⟩ := hFk
      clear hcell
      have hk1 : decide ((k : Int) < (N : Int)) = true := decide_eq_true (by omega)
      have hk2 : decide (k < N) = true := decide_eq_true (by omega)
      obtain ⟨r1, r2, r3, r4, hR⟩ : ∃ v1 v2 v3 v4, actR (kf k) (qf k) x1 y1 z1 = (v1, v2, v3, v4) := ⟨_, _, _, _, rfl⟩
      obtain ⟨hst, her⟩ := st_next HS1.out hR
      have h4 := HE.out k hlt
      rw [her] at h4
      subst h4
      have hne : ((0 : Int) != 0) = false := rfl
      have HR := Lib.hid hR
      have HT := Lib.hid hst
      clear hR hst her
      have l2 : ∀ m : Nat, m < m + 1 + 1 := fun m => by omega
      have hef := eqFunc g wr
      go_wp2_with fail
      refine (act35 (kf k) (qf k) x1 y1 z1 r1 r2 r3 0 HR.out wr g hgl e0 e1).mono ?_
      rintro e w1 ⟨rfl, hb1⟩
      have HB1 : Below w.heap.size w w1 := vbelow_next hb1 HBr
      have g0' := vcell hb1 g0
      have g1' := vcell hb1 g1
      have g2' := vcell hb1 g2
      have d0' := vcell hb1 d0
      have d1' := vcell hb1 d1
      have d2' := vcell hb1 d2
      have f0' : ∀ o, w1.frozen? ⟨w.heap.size, o, none⟩ = false := fun o => (hb1.frozen (p := ⟨w.heap.size, o, none⟩) (by dsimp only; omega)).trans (f0 o)
      have f1' : ∀ o, w1.frozen? ⟨w.heap.size + 1, o, none⟩ = false := fun o => (hb1.frozen (p := ⟨w.heap.size + 1, o, none⟩) (by dsimp only; omega)).trans (f1 o)
      have hz1 : w.heap.size + 1 < w1.heap.size := Nat.lt_of_lt_of_le hsz hb1.size
      have hz2 : w.heap.size < w1.heap.size := by omega
      have n1 : ¬ (w1.heap.size = w.heap.size) := by omega
      have n2 : ¬ (w1.heap.size = w.heap.size + 1) := by omega
      have n3 : ¬ (w.heap.size = w1.heap.size) := by omega
      have n4 : ¬ (w.heap.size + 1 = w1.heap.size) := by omega
      clear g0 g1 g2 d0 d1 d2 f0 f1 c0 e0 e1 hb1
      go_wp2
      go_roundw
      case rel => exact ⟨k + 1, r1, r2, r3, by omega, by go_num, HT.out, by simp [go_sem, *], by simp [go_sem, *], by simp [go_sem, *], by simp [go_sem, *], by simp [go_sem, *], by simp [go_sem, *], fun o => by simp [go_sem, *], fun o => by simp [go_sem, *], by (try simp only [World.size_setCell, World.size_alloc]); omega, (by repeat (first | (with_reducible assumption) | (with_reducible exact Below.refl _ _) | (with_reducible refine vbelow_alloc ?_ _) | (with_reducible refine vbelow_set ?_ (by first | exact Nat.le_refl _ | (dsimp only; omega) | omega))))⟩
      case measure => simp [intOf]; omega
    · obtain rfl : k = j := by omega
      obtain ⟨rfl, rfl, rfl⟩ : x1 = x ∧ y1 = y ∧ z1 = z := by have h_ := HS1.out.symm.trans HS.out; simpa using h_
      obtain ⟨ad, rfl, hcell⟩ := HA.out (by omega)
      have hFk := (hcell k (by omega)).below HBr
      obtain ⟨g, c0, hgl, e0, e1⟩ := hFk
      clear hcell
      have hk1 : decide ((k : Int) < (N : Int)) = true := decide_eq_true (by omega)
      have hk2 : decide (k < N) = true := decide_eq_true (by omega)
      obtain ⟨r1, r2, r3, r4, hR⟩ : ∃ v1 v2 v3 v4, actR (kf k) (qf k) x1 y1 z1 = (v1, v2, v3, v4) := ⟨_, _, _, _, rfl⟩
      obtain ⟨hst, her⟩ := st_next HS1.out hR
      have h4 := HF.out
      rw [her] at h4
      subst h4
      have HR := Lib.hid hR
      have HT := Lib.hid hst
      clear hR hst her
      have l2 : ∀ m : Nat, m < m + 1 + 1 := fun m => by omega
      have hef := eqFunc g wr
      go_wp2_with fail
      refine (act35 (kf k) (qf k) x1 y1 z1 r1 r2 r3 r4 HR.out wr g hgl e0 e1).mono ?_
      rintro e w1 ⟨rfl, hb1⟩
      have HB1 : Below w.heap.size w w1 := vbelow_next hb1 HBr
      have g0' := vcell hb1 g0
      have g1' := vcell hb1 g1
      have g2' := vcell hb1 g2
      have d0' := vcell hb1 d0
      have d1' := vcell hb1 d1
      have d2' := vcell hb1 d2
      have f0' : ∀ o, w1.frozen? ⟨w.heap.size, o, none⟩ = false := fun o => (hb1.frozen (p := ⟨w.heap.size, o, none⟩) (by dsimp only; omega)).trans (f0 o)
      have f1' : ∀ o, w1.frozen? ⟨w.heap.size + 1, o, none⟩ = false := fun o => (hb1.frozen (p := ⟨w.heap.size + 1, o, none⟩) (by dsimp only; omega)).trans (f1 o)
      have hz1 : w.heap.size + 1 < w1.heap.size := Nat.lt_of_lt_of_le hsz hb1.size
      have hz2 : w.heap.size < w1.heap.size := by omega
      have n1 : ¬ (w1.heap.size = w.heap.size) := by omega
      have n2 : ¬ (w1.heap.size = w.heap.size + 1) := by omega
      have n3 : ¬ (w.heap.size = w1.heap.size) := by omega
      have n4 : ¬ (w.heap.size + 1 = w1.heap.size) := by omega
      clear g0 g1 g2 d0 d1 d2 f0 f1 c0 e0 e1 hb1
      go_wp2
      refine bodyPost_ret (v := .tuple #[.agg #[.int .i64 x1, .int .i64 y1, .int .i64 z1], .int .i64 k, .int .i64 r4]) (by simp [results, Try.results23, go_sem, *]) rfl ⟨rfl, (by repeat (first | (with_reducible assumption) | (with_reducible exact Below.refl _ _) | (with_reducible refine vbelow_alloc ?_ _) | (with_reducible refine vbelow_set ?_ (by first | exact Nat.le_refl _ | (dsimp only; omega) | omega))))⟩

end Go.Proofs.Ytfjljlhlifnnlaa.Q
