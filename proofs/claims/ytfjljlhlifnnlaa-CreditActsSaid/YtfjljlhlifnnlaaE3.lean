/- Layer 13: the walk of the law CreditActs: it comes to true whatever the account, the room and the epoch. -/
import Derived.Test.YtfjljlhlifnnlaaE2
import Derived.Lib.Hide
import Derived.Outline
namespace Go.Proofs.Ytfjljlhlifnnlaa.Q
open Go.RowKit
set_option linter.unusedVariables false
set_option linter.unusedSimpArgs false

/-- The worlds in which all that lay in B lies as it lay. -/
structure GW (B : World) where
  val : World
  property : Below B.heap.size B val
instance gwThere (B : World) : Nonempty (GW B) := ⟨⟨B, Below.refl _ _⟩⟩
theorem wp_region_quietB {P : Program} {id : Nat} {Q : Exit → Act → World → Prop} {a : Act} {w : World} {l : List Oper} (hm : P.follows .mixedOrders = true) (hB : Region.lexB .any l.toArray = true)
    (h : wpQuiet P l.toArray (fun w' => ∃ u : GW w, w' = u.val) (fun a' => ∀ w', (∃ u : GW w, w' = u.val) → Q .normal a' w') l a) : (Code.region id l.toArray true).wp P Q a w :=
  wp_region_quiet (C := fun w' => ∃ u : GW w, w' = u.val) hm hB ⟨⟨w.drew, (Below.refl _ w).drew⟩, rfl⟩ (by simpa using h)
theorem quietB_of {P : Program} {f : FuncId} {args : Array Value} {B : World} {u : GW B} {v : Value}
    (h : Calls P f args u.val fun e w' => e = .returned v ∧ Below u.val.heap.size u.val w') : Calls P f args u.val fun e w'' => e = .returned v ∧ ∃ u' : GW B, w'' = u'.val :=
  h.mono fun _ W' ⟨he, hb⟩ => ⟨he, ⟨⟨W', vbelow_next hb u.property⟩, rfl⟩⟩
theorem gw_cell {B : World} {a : Addr} {v : Value} (h : B.cell? a = some v) (u : GW B) : u.val.cell? a = some v := vcell u.property h

set_option maxHeartbeats 1000000 in
set_option maxRecDepth 100000 in
theorem acts3_yes (a b c room p : Int) (w : World) (hm : accMay a b c = true) :
    Calls Try.prog 3 #[.agg #[.int .i64 a, .int .i64 b, .int .i64 c], .int .i64 room, .int .i64 p] w fun e w' => e = .returned (.bool true) ∧ Below w.heap.size w w' := by
  obtain ⟨o1, o2, o3, o4, ho⟩ : ∃ x1 x2 x3 x4, openR room = (x1, x2, x3, x4) := ⟨_, _, _, _, rfl⟩
  have Ho := Lib.hid ho
  clear ho
  obtain ⟨s1, s2, s3, s4, hs⟩ : ∃ x1 x2 x3 x4, spendR a b c = (x1, x2, x3, x4) := ⟨_, _, _, _, rfl⟩
  have Hs := Lib.hid hs
  clear hs
  obtain ⟨k1, k2, k3, k4, hk⟩ : ∃ x1 x2 x3 x4, backR a b c p = (x1, x2, x3, x4) := ⟨_, _, _, _, rfl⟩
  have Hk := Lib.hid hk
  clear hk
  obtain ⟨t1, t2, t3, t4, ht⟩ : ∃ x1 x2 x3 x4, resetR a b c = (x1, x2, x3, x4) := ⟨_, _, _, _, rfl⟩
  have Ht := Lib.hid ht
  clear ht
  obtain ⟨l, hl⟩ : ∃ l, leftR a b c = l := ⟨_, rfl⟩
  have Hl := Lib.hid hl
  clear hl
  have Hm := Lib.hid hm
  clear hm
  go_enter Try.func3, Try.ntmps3
  go_wp2_with fail
  refine (open8 room _ _ _ _ Ho.out _).mono ?_
  rintro e w1 ⟨rfl, hb1⟩
  obtain ⟨hc1, hf1⟩ := vbcell hb1
  have hz1 : w.heap.size + 1 ≤ w1.heap.size := (by have h_ := hb1.size; (try simp only [World.size_alloc, World.size_setCell, World.size_drew, World.heap_drewN] at h_); omega)
  have hc1_0_0 := fun o => hc1 (w.heap.size) o (by (try simp only [World.size_alloc, World.size_setCell, World.size_drew, World.heap_drewN]); omega)
  have hf1_0_0 := fun o => hf1 (w.heap.size) o (by (try simp only [World.size_alloc, World.size_setCell, World.size_drew, World.heap_drewN]); omega)
  have HB1 : Below w.heap.size w w1 := vbelow_step (by repeat (first | (with_reducible exact Below.refl _ _) | (with_reducible refine vbelow_alloc ?_ _) | (with_reducible refine vbelow_drew ?_) | (with_reducible refine vbelow_drewN ?_ _) | (with_reducible refine vbelow_set ?_ (by first | exact Nat.le_refl _ | (dsimp only; omega) | omega)))) hb1
  clear hc1 hf1 hb1
  have hz1_0_0 : w.heap.size < w1.heap.size := (by omega)
  go_wp2_with fail
  refine (open9 room _ _ _ _ Ho.out _).mono ?_
  rintro e w2 ⟨rfl, hb2⟩
  obtain ⟨hc2, hf2⟩ := vbcell hb2
  have hz2 : w1.heap.size + 1 ≤ w2.heap.size := (by have h_ := hb2.size; (try simp only [World.size_alloc, World.size_setCell, World.size_drew, World.heap_drewN] at h_); omega)
  have hc2_0_0 := fun o => hc2 (w.heap.size) o (by (try simp only [World.size_alloc, World.size_setCell, World.size_drew, World.heap_drewN]); omega)
  have hf2_0_0 := fun o => hf2 (w.heap.size) o (by (try simp only [World.size_alloc, World.size_setCell, World.size_drew, World.heap_drewN]); omega)
  have hc2_1_0 := fun o => hc2 (w1.heap.size) o (by (try simp only [World.size_alloc, World.size_setCell, World.size_drew, World.heap_drewN]); omega)
  have hf2_1_0 := fun o => hf2 (w1.heap.size) o (by (try simp only [World.size_alloc, World.size_setCell, World.size_drew, World.heap_drewN]); omega)
  have HB2 : Below w.heap.size w w2 := vbelow_step (by repeat (first | (with_reducible exact Below.refl _ _) | (with_reducible exact HB1) | (with_reducible refine vbelow_alloc ?_ _) | (with_reducible refine vbelow_drew ?_) | (with_reducible refine vbelow_drewN ?_ _) | (with_reducible refine vbelow_set ?_ (by first | exact Nat.le_refl _ | (dsimp only; omega) | omega)))) hb2
  clear hc2 hf2 hb2 HB1
  have hz2_0_0 : w.heap.size < w2.heap.size := (by omega)
  have hz2_1_0 : w1.heap.size < w2.heap.size := (by omega)
  go_wp2_with fail
  refine (spend10 a b c _ _ _ _ Hs.out _).mono ?_
  rintro e w3 ⟨rfl, hb3⟩
  obtain ⟨hc3, hf3⟩ := vbcell hb3
  have hz3 : w2.heap.size + 1 ≤ w3.heap.size := (by have h_ := hb3.size; (try simp only [World.size_alloc, World.size_setCell, World.size_drew, World.heap_drewN] at h_); omega)
  have hc3_0_0 := fun o => hc3 (w.heap.size) o (by (try simp only [World.size_alloc, World.size_setCell, World.size_drew, World.heap_drewN]); omega)
  have hf3_0_0 := fun o => hf3 (w.heap.size) o (by (try simp only [World.size_alloc, World.size_setCell, World.size_drew, World.heap_drewN]); omega)
  have hc3_1_0 := fun o => hc3 (w1.heap.size) o (by (try simp only [World.size_alloc, World.size_setCell, World.size_drew, World.heap_drewN]); omega)
  have hf3_1_0 := fun o => hf3 (w1.heap.size) o (by (try simp only [World.size_alloc, World.size_setCell, World.size_drew, World.heap_drewN]); omega)
  have hc3_2_0 := fun o => hc3 (w2.heap.size) o (by (try simp only [World.size_alloc, World.size_setCell, World.size_drew, World.heap_drewN]); omega)
  have hf3_2_0 := fun o => hf3 (w2.heap.size) o (by (try simp only [World.size_alloc, World.size_setCell, World.size_drew, World.heap_drewN]); omega)
  have HB3 : Below w.heap.size w w3 := vbelow_step (by repeat (first | (with_reducible exact Below.refl _ _) | (with_reducible exact HB2) | (with_reducible refine vbelow_alloc ?_ _) | (with_reducible refine vbelow_drew ?_) | (with_reducible refine vbelow_drewN ?_ _) | (with_reducible refine vbelow_set ?_ (by first | exact Nat.le_refl _ | (dsimp only; omega) | omega)))) hb3
  clear hc3 hf3 hb3 HB2
  have hz3_0_0 : w.heap.size < w3.heap.size := (by omega)
  have hz3_1_0 : w1.heap.size < w3.heap.size := (by omega)
  have hz3_2_0 : w2.heap.size < w3.heap.size := (by omega)
  go_wp2_with fail
  refine (spend11 a b c _ _ _ _ Hs.out _).mono ?_
  rintro e w4 ⟨rfl, hb4⟩
  obtain ⟨hc4, hf4⟩ := vbcell hb4
  have hz4 : w3.heap.size + 1 ≤ w4.heap.size := (by have h_ := hb4.size; (try simp only [World.size_alloc, World.size_setCell, World.size_drew, World.heap_drewN] at h_); omega)
  have hc4_0_0 := fun o => hc4 (w.heap.size) o (by (try simp only [World.size_alloc, World.size_setCell, World.size_drew, World.heap_drewN]); omega)
  have hf4_0_0 := fun o => hf4 (w.heap.size) o (by (try simp only [World.size_alloc, World.size_setCell, World.size_drew, World.heap_drewN]); omega)
  have hc4_1_0 := fun o => hc4 (w1.heap.size) o (by (try simp only [World.size_alloc, World.size_setCell, World.size_drew, World.heap_drewN]); omega)
  have hf4_1_0 := fun o => hf4 (w1.heap.size) o (by (try simp only [World.size_alloc, World.size_setCell, World.size_drew, World.heap_drewN]); omega)
  have hc4_2_0 := fun o => hc4 (w2.heap.size) o (by (try simp only [World.size_alloc, World.size_setCell, World.size_drew, World.heap_drewN]); omega)
  have hf4_2_0 := fun o => hf4 (w2.heap.size) o (by (try simp only [World.size_alloc, World.size_setCell, World.size_drew, World.heap_drewN]); omega)
  have hc4_3_0 := fun o => hc4 (w3.heap.size) o (by (try simp only [World.size_alloc, World.size_setCell, World.size_drew, World.heap_drewN]); omega)
  have hf4_3_0 := fun o => hf4 (w3.heap.size) o (by (try simp only [World.size_alloc, World.size_setCell, World.size_drew, World.heap_drewN]); omega)
  have HB4 : Below w.heap.size w w4 := vbelow_step (by repeat (first | (with_reducible exact Below.refl _ _) | (with_reducible exact HB3) | (with_reducible refine vbelow_alloc ?_ _) | (with_reducible refine vbelow_drew ?_) | (with_reducible refine vbelow_drewN ?_ _) | (with_reducible refine vbelow_set ?_ (by first | exact Nat.le_refl _ | (dsimp only; omega) | omega)))) hb4
  clear hc4 hf4 hb4 HB3
  have hz4_0_0 : w.heap.size < w4.heap.size := (by omega)
  have hz4_1_0 : w1.heap.size < w4.heap.size := (by omega)
  have hz4_2_0 : w2.heap.size < w4.heap.size := (by omega)
  have hz4_3_0 : w3.heap.size < w4.heap.size := (by omega)
  go_wp2_with fail
  refine (back12 a b c p _ _ _ _ Hk.out _).mono ?_
  rintro e w5 ⟨rfl, hb5⟩
  obtain ⟨hc5, hf5⟩ := vbcell hb5
  have hz5 : w4.heap.size + 1 ≤ w5.heap.size := (by have h_ := hb5.size; (try simp only [World.size_alloc, World.size_setCell, World.size_drew, World.heap_drewN] at h_); omega)
  have hc5_0_0 := fun o => hc5 (w.heap.size) o (by (try simp only [World.size_alloc, World.size_setCell, World.size_drew, World.heap_drewN]); omega)
  have hf5_0_0 := fun o => hf5 (w.heap.size) o (by (try simp only [World.size_alloc, World.size_setCell, World.size_drew, World.heap_drewN]); omega)
  have hc5_1_0 := fun o => hc5 (w1.heap.size) o (by (try simp only [World.size_alloc, World.size_setCell, World.size_drew, World.heap_drewN]); omega)
  have hf5_1_0 := fun o => hf5 (w1.heap.size) o (by (try simp only [World.size_alloc, World.size_setCell, World.size_drew, World.heap_drewN]); omega)
  have hc5_2_0 := fun o => hc5 (w2.heap.size) o (by (try simp only [World.size_alloc, World.size_setCell, World.size_drew, World.heap_drewN]); omega)
  have hf5_2_0 := fun o => hf5 (w2.heap.size) o (by (try simp only [World.size_alloc, World.size_setCell, World.size_drew, World.heap_drewN]); omega)
  have hc5_3_0 := fun o => hc5 (w3.heap.size) o (by (try simp only [World.size_alloc, World.size_setCell, World.size_drew, World.heap_drewN]); omega)
  have hf5_3_0 := fun o => hf5 (w3.heap.size) o (by (try simp only [World.size_alloc, World.size_setCell, World.size_drew, World.heap_drewN]); omega)
  have hc5_4_0 := fun o => hc5 (w4.heap.size) o (by (try simp only [World.size_alloc, World.size_setCell, World.size_drew, World.heap_drewN]); omega)
  have hf5_4_0 := fun o => hf5 (w4.heap.size) o (by (try simp only [World.size_alloc, World.size_setCell, World.size_drew, World.heap_drewN]); omega)
  have HB5 : Below w.heap.size w w5 := vbelow_step (by repeat (first | (with_reducible exact Below.refl _ _) | (with_reducible exact HB4) | (with_reducible refine vbelow_alloc ?_ _) | (with_reducible refine vbelow_drew ?_) | (with_reducible refine vbelow_drewN ?_ _) | (with_reducible refine vbelow_set ?_ (by first | exact Nat.le_refl _ | (dsimp only; omega) | omega)))) hb5
  clear hc5 hf5 hb5 HB4
  have hz5_0_0 : w.heap.size < w5.heap.size := (by omega)
  have hz5_1_0 : w1.heap.size < w5.heap.size := (by omega)
  have hz5_2_0 : w2.heap.size < w5.heap.size := (by omega)
  have hz5_3_0 : w3.heap.size < w5.heap.size := (by omega)
  have hz5_4_0 : w4.heap.size < w5.heap.size := (by omega)
  go_wp2_with fail
  refine (back13 a b c p _ _ _ _ Hk.out _).mono ?_
  rintro e w6 ⟨rfl, hb6⟩
  obtain ⟨hc6, hf6⟩ := vbcell hb6
  have hz6 : w5.heap.size + 1 ≤ w6.heap.size := (by have h_ := hb6.size; (try simp only [World.size_alloc, World.size_setCell, World.size_drew, World.heap_drewN] at h_); omega)
  have hc6_0_0 := fun o => hc6 (w.heap.size) o (by (try simp only [World.size_alloc, World.size_setCell, World.size_drew, World.heap_drewN]); omega)
  have hf6_0_0 := fun o => hf6 (w.heap.size) o (by (try simp only [World.size_alloc, World.size_setCell, World.size_drew, World.heap_drewN]); omega)
  have hc6_1_0 := fun o => hc6 (w1.heap.size) o (by (try simp only [World.size_alloc, World.size_setCell, World.size_drew, World.heap_drewN]); omega)
  have hf6_1_0 := fun o => hf6 (w1.heap.size) o (by (try simp only [World.size_alloc, World.size_setCell, World.size_drew, World.heap_drewN]); omega)
  have hc6_2_0 := fun o => hc6 (w2.heap.size) o (by (try simp only [World.size_alloc, World.size_setCell, World.size_drew, World.heap_drewN]); omega)
  have hf6_2_0 := fun o => hf6 (w2.heap.size) o (by (try simp only [World.size_alloc, World.size_setCell, World.size_drew, World.heap_drewN]); omega)
  have hc6_3_0 := fun o => hc6 (w3.heap.size) o (by (try simp only [World.size_alloc, World.size_setCell, World.size_drew, World.heap_drewN]); omega)
  have hf6_3_0 := fun o => hf6 (w3.heap.size) o (by (try simp only [World.size_alloc, World.size_setCell, World.size_drew, World.heap_drewN]); omega)
  have hc6_4_0 := fun o => hc6 (w4.heap.size) o (by (try simp only [World.size_alloc, World.size_setCell, World.size_drew, World.heap_drewN]); omega)
  have hf6_4_0 := fun o => hf6 (w4.heap.size) o (by (try simp only [World.size_alloc, World.size_setCell, World.size_drew, World.heap_drewN]); omega)
  have hc6_5_0 := fun o => hc6 (w5.heap.size) o (by (try simp only [World.size_alloc, World.size_setCell, World.size_drew, World.heap_drewN]); omega)
  have hf6_5_0 := fun o => hf6 (w5.heap.size) o (by (try simp only [World.size_alloc, World.size_setCell, World.size_drew, World.heap_drewN]); omega)
  have HB6 : Below w.heap.size w w6 := vbelow_step (by repeat (first | (with_reducible exact Below.refl _ _) | (with_reducible exact HB5) | (with_reducible refine vbelow_alloc ?_ _) | (with_reducible refine vbelow_drew ?_) | (with_reducible refine vbelow_drewN ?_ _) | (with_reducible refine vbelow_set ?_ (by first | exact Nat.le_refl _ | (dsimp only; omega) | omega)))) hb6
  clear hc6 hf6 hb6 HB5
  have hz6_0_0 : w.heap.size < w6.heap.size := (by omega)
  have hz6_1_0 : w1.heap.size < w6.heap.size := (by omega)
  have hz6_2_0 : w2.heap.size < w6.heap.size := (by omega)
  have hz6_3_0 : w3.heap.size < w6.heap.size := (by omega)
  have hz6_4_0 : w4.heap.size < w6.heap.size := (by omega)
  have hz6_5_0 : w5.heap.size < w6.heap.size := (by omega)
  go_wp2_with fail
  refine (reset14 a b c _ _ _ _ Ht.out _).mono ?_
  rintro e w7 ⟨rfl, hb7⟩
  obtain ⟨hc7, hf7⟩ := vbcell hb7
  have hz7 : w6.heap.size + 1 ≤ w7.heap.size := (by have h_ := hb7.size; (try simp only [World.size_alloc, World.size_setCell, World.size_drew, World.heap_drewN] at h_); omega)
  have hc7_0_0 := fun o => hc7 (w.heap.size) o (by (try simp only [World.size_alloc, World.size_setCell, World.size_drew, World.heap_drewN]); omega)
  have hf7_0_0 := fun o => hf7 (w.heap.size) o (by (try simp only [World.size_alloc, World.size_setCell, World.size_drew, World.heap_drewN]); omega)
  have hc7_1_0 := fun o => hc7 (w1.heap.size) o (by (try simp only [World.size_alloc, World.size_setCell, World.size_drew, World.heap_drewN]); omega)
  have hf7_1_0 := fun o => hf7 (w1.heap.size) o (by (try simp only [World.size_alloc, World.size_setCell, World.size_drew, World.heap_drewN]); omega)
  have hc7_2_0 := fun o => hc7 (w2.heap.size) o (by (try simp only [World.size_alloc, World.size_setCell, World.size_drew, World.heap_drewN]); omega)
  have hf7_2_0 := fun o => hf7 (w2.heap.size) o (by (try simp only [World.size_alloc, World.size_setCell, World.size_drew, World.heap_drewN]); omega)
  have hc7_3_0 := fun o => hc7 (w3.heap.size) o (by (try simp only [World.size_alloc, World.size_setCell, World.size_drew, World.heap_drewN]); omega)
  have hf7_3_0 := fun o => hf7 (w3.heap.size) o (by (try simp only [World.size_alloc, World.size_setCell, World.size_drew, World.heap_drewN]); omega)
  have hc7_4_0 := fun o => hc7 (w4.heap.size) o (by (try simp only [World.size_alloc, World.size_setCell, World.size_drew, World.heap_drewN]); omega)
  have hf7_4_0 := fun o => hf7 (w4.heap.size) o (by (try simp only [World.size_alloc, World.size_setCell, World.size_drew, World.heap_drewN]); omega)
  have hc7_5_0 := fun o => hc7 (w5.heap.size) o (by (try simp only [World.size_alloc, World.size_setCell, World.size_drew, World.heap_drewN]); omega)
  have hf7_5_0 := fun o => hf7 (w5.heap.size) o (by (try simp only [World.size_alloc, World.size_setCell, World.size_drew, World.heap_drewN]); omega)
  have hc7_6_0 := fun o => hc7 (w6.heap.size) o (by (try simp only [World.size_alloc, World.size_setCell, World.size_drew, World.heap_drewN]); omega)
  have hf7_6_0 := fun o => hf7 (w6.heap.size) o (by (try simp only [World.size_alloc, World.size_setCell, World.size_drew, World.heap_drewN]); omega)
  have HB7 : Below w.heap.size w w7 := vbelow_step (by repeat (first | (with_reducible exact Below.refl _ _) | (with_reducible exact HB6) | (with_reducible refine vbelow_alloc ?_ _) | (with_reducible refine vbelow_drew ?_) | (with_reducible refine vbelow_drewN ?_ _) | (with_reducible refine vbelow_set ?_ (by first | exact Nat.le_refl _ | (dsimp only; omega) | omega)))) hb7
  clear hc7 hf7 hb7 HB6
  have hz7_0_0 : w.heap.size < w7.heap.size := (by omega)
  have hz7_1_0 : w1.heap.size < w7.heap.size := (by omega)
  have hz7_2_0 : w2.heap.size < w7.heap.size := (by omega)
  have hz7_3_0 : w3.heap.size < w7.heap.size := (by omega)
  have hz7_4_0 : w4.heap.size < w7.heap.size := (by omega)
  have hz7_5_0 : w5.heap.size < w7.heap.size := (by omega)
  have hz7_6_0 : w6.heap.size < w7.heap.size := (by omega)
  go_wp2_with fail
  refine (reset15 a b c _ _ _ _ Ht.out _).mono ?_
  rintro e w8 ⟨rfl, hb8⟩
  obtain ⟨hc8, hf8⟩ := vbcell hb8
  have hz8 : w7.heap.size + 1 ≤ w8.heap.size := (by have h_ := hb8.size; (try simp only [World.size_alloc, World.size_setCell, World.size_drew, World.heap_drewN] at h_); omega)
  have hc8_0_0 := fun o => hc8 (w.heap.size) o (by (try simp only [World.size_alloc, World.size_setCell, World.size_drew, World.heap_drewN]); omega)
  have hf8_0_0 := fun o => hf8 (w.heap.size) o (by (try simp only [World.size_alloc, World.size_setCell, World.size_drew, World.heap_drewN]); omega)
  have hc8_1_0 := fun o => hc8 (w1.heap.size) o (by (try simp only [World.size_alloc, World.size_setCell, World.size_drew, World.heap_drewN]); omega)
  have hf8_1_0 := fun o => hf8 (w1.heap.size) o (by (try simp only [World.size_alloc, World.size_setCell, World.size_drew, World.heap_drewN]); omega)
  have hc8_2_0 := fun o => hc8 (w2.heap.size) o (by (try simp only [World.size_alloc, World.size_setCell, World.size_drew, World.heap_drewN]); omega)
  have hf8_2_0 := fun o => hf8 (w2.heap.size) o (by (try simp only [World.size_alloc, World.size_setCell, World.size_drew, World.heap_drewN]); omega)
  have hc8_3_0 := fun o => hc8 (w3.heap.size) o (by (try simp only [World.size_alloc, World.size_setCell, World.size_drew, World.heap_drewN]); omega)
  have hf8_3_0 := fun o => hf8 (w3.heap.size) o (by (try simp only [World.size_alloc, World.size_setCell, World.size_drew, World.heap_drewN]); omega)
  have hc8_4_0 := fun o => hc8 (w4.heap.size) o (by (try simp only [World.size_alloc, World.size_setCell, World.size_drew, World.heap_drewN]); omega)
  have hf8_4_0 := fun o => hf8 (w4.heap.size) o (by (try simp only [World.size_alloc, World.size_setCell, World.size_drew, World.heap_drewN]); omega)
  have hc8_5_0 := fun o => hc8 (w5.heap.size) o (by (try simp only [World.size_alloc, World.size_setCell, World.size_drew, World.heap_drewN]); omega)
  have hf8_5_0 := fun o => hf8 (w5.heap.size) o (by (try simp only [World.size_alloc, World.size_setCell, World.size_drew, World.heap_drewN]); omega)
  have hc8_6_0 := fun o => hc8 (w6.heap.size) o (by (try simp only [World.size_alloc, World.size_setCell, World.size_drew, World.heap_drewN]); omega)
  have hf8_6_0 := fun o => hf8 (w6.heap.size) o (by (try simp only [World.size_alloc, World.size_setCell, World.size_drew, World.heap_drewN]); omega)
  have hc8_7_0 := fun o => hc8 (w7.heap.size) o (by (try simp only [World.size_alloc, World.size_setCell, World.size_drew, World.heap_drewN]); omega)
  have hf8_7_0 := fun o => hf8 (w7.heap.size) o (by (try simp only [World.size_alloc, World.size_setCell, World.size_drew, World.heap_drewN]); omega)
  have HB8 : Below w.heap.size w w8 := vbelow_step (by repeat (first | (with_reducible exact Below.refl _ _) | (with_reducible exact HB7) | (with_reducible refine vbelow_alloc ?_ _) | (with_reducible refine vbelow_drew ?_) | (with_reducible refine vbelow_drewN ?_ _) | (with_reducible refine vbelow_set ?_ (by first | exact Nat.le_refl _ | (dsimp only; omega) | omega)))) hb8
  clear hc8 hf8 hb8 HB7
  have hz8_0_0 : w.heap.size < w8.heap.size := (by omega)
  have hz8_1_0 : w1.heap.size < w8.heap.size := (by omega)
  have hz8_2_0 : w2.heap.size < w8.heap.size := (by omega)
  have hz8_3_0 : w3.heap.size < w8.heap.size := (by omega)
  have hz8_4_0 : w4.heap.size < w8.heap.size := (by omega)
  have hz8_5_0 : w5.heap.size < w8.heap.size := (by omega)
  have hz8_6_0 : w6.heap.size < w8.heap.size := (by omega)
  have hz8_7_0 : w7.heap.size < w8.heap.size := (by omega)
  go_wp2
  have Q0 : (w8.alloc (.cells #[.int .i64 t1, .int .i64 t2, .int .i64 t3] 23)).cell? ⟨w.heap.size, 0, none⟩ = some (.int .i64 a) := (by simp [go_sem, *])
  have Q1 : (w8.alloc (.cells #[.int .i64 t1, .int .i64 t2, .int .i64 t3] 23)).cell? ⟨w.heap.size, 1, none⟩ = some (.int .i64 b) := (by simp [go_sem, *])
  have Q2 : (w8.alloc (.cells #[.int .i64 t1, .int .i64 t2, .int .i64 t3] 23)).cell? ⟨w.heap.size, 2, none⟩ = some (.int .i64 c) := (by simp [go_sem, *])
  have Q3 : (w8.alloc (.cells #[.int .i64 t1, .int .i64 t2, .int .i64 t3] 23)).cell? ⟨w1.heap.size, 0, none⟩ = some (.int .i64 o1) := (by simp [go_sem, *])
  have Q4 : (w8.alloc (.cells #[.int .i64 t1, .int .i64 t2, .int .i64 t3] 23)).cell? ⟨w1.heap.size, 1, none⟩ = some (.int .i64 o2) := (by simp [go_sem, *])
  have Q5 : (w8.alloc (.cells #[.int .i64 t1, .int .i64 t2, .int .i64 t3] 23)).cell? ⟨w1.heap.size, 2, none⟩ = some (.int .i64 o3) := (by simp [go_sem, *])
  have Q6 : (w8.alloc (.cells #[.int .i64 t1, .int .i64 t2, .int .i64 t3] 23)).cell? ⟨w2.heap.size, 0, none⟩ = some (.int .i64 o1) := (by simp [go_sem, *])
  have Q7 : (w8.alloc (.cells #[.int .i64 t1, .int .i64 t2, .int .i64 t3] 23)).cell? ⟨w2.heap.size, 1, none⟩ = some (.int .i64 o2) := (by simp [go_sem, *])
  have Q8 : (w8.alloc (.cells #[.int .i64 t1, .int .i64 t2, .int .i64 t3] 23)).cell? ⟨w2.heap.size, 2, none⟩ = some (.int .i64 o3) := (by simp [go_sem, *])
  have Q9 : (w8.alloc (.cells #[.int .i64 t1, .int .i64 t2, .int .i64 t3] 23)).cell? ⟨w3.heap.size, 0, none⟩ = some (.int .i64 s1) := (by simp [go_sem, *])
  have Q10 : (w8.alloc (.cells #[.int .i64 t1, .int .i64 t2, .int .i64 t3] 23)).cell? ⟨w3.heap.size, 1, none⟩ = some (.int .i64 s2) := (by simp [go_sem, *])
  have Q11 : (w8.alloc (.cells #[.int .i64 t1, .int .i64 t2, .int .i64 t3] 23)).cell? ⟨w3.heap.size, 2, none⟩ = some (.int .i64 s3) := (by simp [go_sem, *])
  have Q12 : (w8.alloc (.cells #[.int .i64 t1, .int .i64 t2, .int .i64 t3] 23)).cell? ⟨w4.heap.size, 0, none⟩ = some (.int .i64 s1) := (by simp [go_sem, *])
  have Q13 : (w8.alloc (.cells #[.int .i64 t1, .int .i64 t2, .int .i64 t3] 23)).cell? ⟨w4.heap.size, 1, none⟩ = some (.int .i64 s2) := (by simp [go_sem, *])
  have Q14 : (w8.alloc (.cells #[.int .i64 t1, .int .i64 t2, .int .i64 t3] 23)).cell? ⟨w4.heap.size, 2, none⟩ = some (.int .i64 s3) := (by simp [go_sem, *])
  have Q15 : (w8.alloc (.cells #[.int .i64 t1, .int .i64 t2, .int .i64 t3] 23)).cell? ⟨w5.heap.size, 0, none⟩ = some (.int .i64 k1) := (by simp [go_sem, *])
  have Q16 : (w8.alloc (.cells #[.int .i64 t1, .int .i64 t2, .int .i64 t3] 23)).cell? ⟨w5.heap.size, 1, none⟩ = some (.int .i64 k2) := (by simp [go_sem, *])
  have Q17 : (w8.alloc (.cells #[.int .i64 t1, .int .i64 t2, .int .i64 t3] 23)).cell? ⟨w5.heap.size, 2, none⟩ = some (.int .i64 k3) := (by simp [go_sem, *])
  have Q18 : (w8.alloc (.cells #[.int .i64 t1, .int .i64 t2, .int .i64 t3] 23)).cell? ⟨w6.heap.size, 0, none⟩ = some (.int .i64 k1) := (by simp [go_sem, *])
  have Q19 : (w8.alloc (.cells #[.int .i64 t1, .int .i64 t2, .int .i64 t3] 23)).cell? ⟨w6.heap.size, 1, none⟩ = some (.int .i64 k2) := (by simp [go_sem, *])
  have Q20 : (w8.alloc (.cells #[.int .i64 t1, .int .i64 t2, .int .i64 t3] 23)).cell? ⟨w6.heap.size, 2, none⟩ = some (.int .i64 k3) := (by simp [go_sem, *])
  have Q21 : (w8.alloc (.cells #[.int .i64 t1, .int .i64 t2, .int .i64 t3] 23)).cell? ⟨w7.heap.size, 0, none⟩ = some (.int .i64 t1) := (by simp [go_sem, *])
  have Q22 : (w8.alloc (.cells #[.int .i64 t1, .int .i64 t2, .int .i64 t3] 23)).cell? ⟨w7.heap.size, 1, none⟩ = some (.int .i64 t2) := (by simp [go_sem, *])
  have Q23 : (w8.alloc (.cells #[.int .i64 t1, .int .i64 t2, .int .i64 t3] 23)).cell? ⟨w7.heap.size, 2, none⟩ = some (.int .i64 t3) := (by simp [go_sem, *])
  have Q24 : (w8.alloc (.cells #[.int .i64 t1, .int .i64 t2, .int .i64 t3] 23)).cell? ⟨w8.heap.size, 0, none⟩ = some (.int .i64 t1) := (by simp [go_sem, *])
  have Q25 : (w8.alloc (.cells #[.int .i64 t1, .int .i64 t2, .int .i64 t3] 23)).cell? ⟨w8.heap.size, 1, none⟩ = some (.int .i64 t2) := (by simp [go_sem, *])
  have Q26 : (w8.alloc (.cells #[.int .i64 t1, .int .i64 t2, .int .i64 t3] 23)).cell? ⟨w8.heap.size, 2, none⟩ = some (.int .i64 t3) := (by simp [go_sem, *])
  have HBq : Below w.heap.size w (w8.alloc (.cells #[.int .i64 t1, .int .i64 t2, .int .i64 t3] 23)) := (by repeat (first | (with_reducible exact Below.refl _ _) | (with_reducible exact HB8) | (with_reducible refine vbelow_alloc ?_ _) | (with_reducible refine vbelow_drew ?_) | (with_reducible refine vbelow_drewN ?_ _) | (with_reducible refine vbelow_set ?_ (by first | exact Nat.le_refl _ | (dsimp only; omega) | omega))))
  obtain ⟨W0, hW0⟩ : ∃ W0, W0 = w8.alloc (.cells #[.int .i64 t1, .int .i64 t2, .int .i64 t3] 23) := ⟨_, rfl⟩
  rw [← hW0] at HBq Q0 Q1 Q2 Q3 Q4 Q5 Q6 Q7 Q8 Q9 Q10 Q11 Q12 Q13 Q14 Q15 Q16 Q17 Q18 Q19 Q20 Q21 Q22 Q23 Q24 Q25 Q26 ⊢
  clear hc1_0_0 hc2_0_0 hc2_1_0 hc3_0_0 hc3_1_0 hc3_2_0 hc4_0_0 hc4_1_0 hc4_2_0 hc4_3_0 hc5_0_0 hc5_1_0 hc5_2_0 hc5_3_0 hc5_4_0 hc6_0_0 hc6_1_0 hc6_2_0 hc6_3_0 hc6_4_0 hc6_5_0 hc7_0_0 hc7_1_0 hc7_2_0 hc7_3_0 hc7_4_0 hc7_5_0 hc7_6_0 hc8_0_0 hc8_1_0 hc8_2_0 hc8_3_0 hc8_4_0 hc8_5_0 hc8_6_0 hc8_7_0 hf1_0_0 hf2_0_0 hf2_1_0 hf3_0_0 hf3_1_0 hf3_2_0 hf4_0_0 hf4_1_0 hf4_2_0 hf4_3_0 hf5_0_0 hf5_1_0 hf5_2_0 hf5_3_0 hf5_4_0 hf6_0_0 hf6_1_0 hf6_2_0 hf6_3_0 hf6_4_0 hf6_5_0 hf7_0_0 hf7_1_0 hf7_2_0 hf7_3_0 hf7_4_0 hf7_5_0 hf7_6_0 hf8_0_0 hf8_1_0 hf8_2_0 hf8_3_0 hf8_4_0 hf8_5_0 hf8_6_0 hf8_7_0 hz1_0_0 hz2_0_0 hz2_1_0 hz3_0_0 hz3_1_0 hz3_2_0 hz4_0_0 hz4_1_0 hz4_2_0 hz4_3_0 hz5_0_0 hz5_1_0 hz5_2_0 hz5_3_0 hz5_4_0 hz6_0_0 hz6_1_0 hz6_2_0 hz6_3_0 hz6_4_0 hz6_5_0 hz7_0_0 hz7_1_0 hz7_2_0 hz7_3_0 hz7_4_0 hz7_5_0 hz7_6_0 hz8_0_0 hz8_1_0 hz8_2_0 hz8_3_0 hz8_4_0 hz8_5_0 hz8_6_0 hz8_7_0 hz1 hz2 hz3 hz4 hz5 hz6 hz7 hz8 HB8
  clear hW0
  have q0 := gw_cell Q0
  have q1 := gw_cell Q1
  have q2 := gw_cell Q2
  have q3 := gw_cell Q3
  have q4 := gw_cell Q4
  have q5 := gw_cell Q5
  have q6 := gw_cell Q6
  have q7 := gw_cell Q7
  have q8 := gw_cell Q8
  have q9 := gw_cell Q9
  have q10 := gw_cell Q10
  have q11 := gw_cell Q11
  have q12 := gw_cell Q12
  have q13 := gw_cell Q13
  have q14 := gw_cell Q14
  have q15 := gw_cell Q15
  have q16 := gw_cell Q16
  have q17 := gw_cell Q17
  have q18 := gw_cell Q18
  have q19 := gw_cell Q19
  have q20 := gw_cell Q20
  have q21 := gw_cell Q21
  have q22 := gw_cell Q22
  have q23 := gw_cell Q23
  have q24 := gw_cell Q24
  have q25 := gw_cell Q25
  have q26 := gw_cell Q26
  refine wp_region_quietB (by kernel_rfl) (by kernel_rfl) ?_
  repeat (first | go_big_quiet_step ((first | (go_at_call 16; exact quietB_of (check16_yes a b c _ Hm.out)) | (go_at_call 17; exact quietB_of (is17v a b c _ Hm.out)) | (go_at_call 18; exact quietB_of (left18 a b c l Hl.out _)) | (go_at_call 19; exact quietB_of (left19 a b c l Hl.out _)) | (go_at_call 20; exact quietB_of (alive20 _)))) | quiet_step ((first | (go_at_call 16; exact quietB_of (check16_yes a b c _ Hm.out)) | (go_at_call 17; exact quietB_of (is17v a b c _ Hm.out)) | (go_at_call 18; exact quietB_of (left18 a b c l Hl.out _)) | (go_at_call 19; exact quietB_of (left19 a b c l Hl.out _)) | (go_at_call 20; exact quietB_of (alive20 _)))))
  refine wpQuiet_nil ?_
  rintro w9 ⟨⟨wq_, hb9⟩, hwq_⟩
  obtain rfl : w9 = wq_ := hwq_
  have HB9 : Below w.heap.size w w9 := vbelow_next hb9 HBq
  go_wp2
  go_ret
  exact ⟨rfl, HB9⟩

set_option maxHeartbeats 1000000 in
set_option maxRecDepth 100000 in
theorem acts3_no (a b c room p : Int) (w : World) (hm : accMay a b c = false) :
    Calls Try.prog 3 #[.agg #[.int .i64 a, .int .i64 b, .int .i64 c], .int .i64 room, .int .i64 p] w fun e w' => e = .returned (.bool true) ∧ Below w.heap.size w w' := by
  obtain ⟨o1, o2, o3, o4, ho⟩ : ∃ x1 x2 x3 x4, openR room = (x1, x2, x3, x4) := ⟨_, _, _, _, rfl⟩
  have Ho := Lib.hid ho
  clear ho
  obtain ⟨s1, s2, s3, s4, hs⟩ : ∃ x1 x2 x3 x4, spendR a b c = (x1, x2, x3, x4) := ⟨_, _, _, _, rfl⟩
  have Hs := Lib.hid hs
  clear hs
  obtain ⟨k1, k2, k3, k4, hk⟩ : ∃ x1 x2 x3 x4, backR a b c p = (x1, x2, x3, x4) := ⟨_, _, _, _, rfl⟩
  have Hk := Lib.hid hk
  clear hk
  obtain ⟨t1, t2, t3, t4, ht⟩ : ∃ x1 x2 x3 x4, resetR a b c = (x1, x2, x3, x4) := ⟨_, _, _, _, rfl⟩
  have Ht := Lib.hid ht
  clear ht
  obtain ⟨l, hl⟩ : ∃ l, leftR a b c = l := ⟨_, rfl⟩
  have Hl := Lib.hid hl
  clear hl
  have Hm := Lib.hid hm
  clear hm
  go_enter Try.func3, Try.ntmps3
  go_wp2_with fail
  refine (open8 room _ _ _ _ Ho.out _).mono ?_
  rintro e w1 ⟨rfl, hb1⟩
  obtain ⟨hc1, hf1⟩ := vbcell hb1
  have hz1 : w.heap.size + 1 ≤ w1.heap.size := (by have h_ := hb1.size; (try simp only [World.size_alloc, World.size_setCell, World.size_drew, World.heap_drewN] at h_); omega)
  have hc1_0_0 := fun o => hc1 (w.heap.size) o (by (try simp only [World.size_alloc, World.size_setCell, World.size_drew, World.heap_drewN]); omega)
  have hf1_0_0 := fun o => hf1 (w.heap.size) o (by (try simp only [World.size_alloc, World.size_setCell, World.size_drew, World.heap_drewN]); omega)
  have HB1 : Below w.heap.size w w1 := vbelow_step (by repeat (first | (with_reducible exact Below.refl _ _) | (with_reducible refine vbelow_alloc ?_ _) | (with_reducible refine vbelow_drew ?_) | (with_reducible refine vbelow_drewN ?_ _) | (with_reducible refine vbelow_set ?_ (by first | exact Nat.le_refl _ | (dsimp only; omega) | omega)))) hb1
  clear hc1 hf1 hb1
  have hz1_0_0 : w.heap.size < w1.heap.size := (by omega)
  go_wp2_with fail
  refine (open9 room _ _ _ _ Ho.out _).mono ?_
  rintro e w2 ⟨rfl, hb2⟩
  obtain ⟨hc2, hf2⟩ := vbcell hb2
  have hz2 : w1.heap.size + 1 ≤ w2.heap.size := (by have h_ := hb2.size; (try simp only [World.size_alloc, World.size_setCell, World.size_drew, World.heap_drewN] at h_); omega)
  have hc2_0_0 := fun o => hc2 (w.heap.size) o (by (try simp only [World.size_alloc, World.size_setCell, World.size_drew, World.heap_drewN]); omega)
  have hf2_0_0 := fun o => hf2 (w.heap.size) o (by (try simp only [World.size_alloc, World.size_setCell, World.size_drew, World.heap_drewN]); omega)
  have hc2_1_0 := fun o => hc2 (w1.heap.size) o (by (try simp only [World.size_alloc, World.size_setCell, World.size_drew, World.heap_drewN]); omega)
  have hf2_1_0 := fun o => hf2 (w1.heap.size) o (by (try simp only [World.size_alloc, World.size_setCell, World.size_drew, World.heap_drewN]); omega)
  have HB2 : Below w.heap.size w w2 := vbelow_step (by repeat (first | (with_reducible exact Below.refl _ _) | (with_reducible exact HB1) | (with_reducible refine vbelow_alloc ?_ _) | (with_reducible refine vbelow_drew ?_) | (with_reducible refine vbelow_drewN ?_ _) | (with_reducible refine vbelow_set ?_ (by first | exact Nat.le_refl _ | (dsimp only; omega) | omega)))) hb2
  clear hc2 hf2 hb2 HB1
  have hz2_0_0 : w.heap.size < w2.heap.size := (by omega)
  have hz2_1_0 : w1.heap.size < w2.heap.size := (by omega)
  go_wp2_with fail
  refine (spend10 a b c _ _ _ _ Hs.out _).mono ?_
  rintro e w3 ⟨rfl, hb3⟩
  obtain ⟨hc3, hf3⟩ := vbcell hb3
  have hz3 : w2.heap.size + 1 ≤ w3.heap.size := (by have h_ := hb3.size; (try simp only [World.size_alloc, World.size_setCell, World.size_drew, World.heap_drewN] at h_); omega)
  have hc3_0_0 := fun o => hc3 (w.heap.size) o (by (try simp only [World.size_alloc, World.size_setCell, World.size_drew, World.heap_drewN]); omega)
  have hf3_0_0 := fun o => hf3 (w.heap.size) o (by (try simp only [World.size_alloc, World.size_setCell, World.size_drew, World.heap_drewN]); omega)
  have hc3_1_0 := fun o => hc3 (w1.heap.size) o (by (try simp only [World.size_alloc, World.size_setCell, World.size_drew, World.heap_drewN]); omega)
  have hf3_1_0 := fun o => hf3 (w1.heap.size) o (by (try simp only [World.size_alloc, World.size_setCell, World.size_drew, World.heap_drewN]); omega)
  have hc3_2_0 := fun o => hc3 (w2.heap.size) o (by (try simp only [World.size_alloc, World.size_setCell, World.size_drew, World.heap_drewN]); omega)
  have hf3_2_0 := fun o => hf3 (w2.heap.size) o (by (try simp only [World.size_alloc, World.size_setCell, World.size_drew, World.heap_drewN]); omega)
  have HB3 : Below w.heap.size w w3 := vbelow_step (by repeat (first | (with_reducible exact Below.refl _ _) | (with_reducible exact HB2) | (with_reducible refine vbelow_alloc ?_ _) | (with_reducible refine vbelow_drew ?_) | (with_reducible refine vbelow_drewN ?_ _) | (with_reducible refine vbelow_set ?_ (by first | exact Nat.le_refl _ | (dsimp only; omega) | omega)))) hb3
  clear hc3 hf3 hb3 HB2
  have hz3_0_0 : w.heap.size < w3.heap.size := (by omega)
  have hz3_1_0 : w1.heap.size < w3.heap.size := (by omega)
  have hz3_2_0 : w2.heap.size < w3.heap.size := (by omega)
  go_wp2_with fail
  refine (spend11 a b c _ _ _ _ Hs.out _).mono ?_
  rintro e w4 ⟨rfl, hb4⟩
  obtain ⟨hc4, hf4⟩ := vbcell hb4
  have hz4 : w3.heap.size + 1 ≤ w4.heap.size := (by have h_ := hb4.size; (try simp only [World.size_alloc, World.size_setCell, World.size_drew, World.heap_drewN] at h_); omega)
  have hc4_0_0 := fun o => hc4 (w.heap.size) o (by (try simp only [World.size_alloc, World.size_setCell, World.size_drew, World.heap_drewN]); omega)
  have hf4_0_0 := fun o => hf4 (w.heap.size) o (by (try simp only [World.size_alloc, World.size_setCell, World.size_drew, World.heap_drewN]); omega)
  have hc4_1_0 := fun o => hc4 (w1.heap.size) o (by (try simp only [World.size_alloc, World.size_setCell, World.size_drew, World.heap_drewN]); omega)
  have hf4_1_0 := fun o => hf4 (w1.heap.size) o (by (try simp only [World.size_alloc, World.size_setCell, World.size_drew, World.heap_drewN]); omega)
  have hc4_2_0 := fun o => hc4 (w2.heap.size) o (by (try simp only [World.size_alloc, World.size_setCell, World.size_drew, World.heap_drewN]); omega)
  have hf4_2_0 := fun o => hf4 (w2.heap.size) o (by (try simp only [World.size_alloc, World.size_setCell, World.size_drew, World.heap_drewN]); omega)
  have hc4_3_0 := fun o => hc4 (w3.heap.size) o (by (try simp only [World.size_alloc, World.size_setCell, World.size_drew, World.heap_drewN]); omega)
  have hf4_3_0 := fun o => hf4 (w3.heap.size) o (by (try simp only [World.size_alloc, World.size_setCell, World.size_drew, World.heap_drewN]); omega)
  have HB4 : Below w.heap.size w w4 := vbelow_step (by repeat (first | (with_reducible exact Below.refl _ _) | (with_reducible exact HB3) | (with_reducible refine vbelow_alloc ?_ _) | (with_reducible refine vbelow_drew ?_) | (with_reducible refine vbelow_drewN ?_ _) | (with_reducible refine vbelow_set ?_ (by first | exact Nat.le_refl _ | (dsimp only; omega) | omega)))) hb4
  clear hc4 hf4 hb4 HB3
  have hz4_0_0 : w.heap.size < w4.heap.size := (by omega)
  have hz4_1_0 : w1.heap.size < w4.heap.size := (by omega)
  have hz4_2_0 : w2.heap.size < w4.heap.size := (by omega)
  have hz4_3_0 : w3.heap.size < w4.heap.size := (by omega)
  go_wp2_with fail
  refine (back12 a b c p _ _ _ _ Hk.out _).mono ?_
  rintro e w5 ⟨rfl, hb5⟩
  obtain ⟨hc5, hf5⟩ := vbcell hb5
  have hz5 : w4.heap.size + 1 ≤ w5.heap.size := (by have h_ := hb5.size; (try simp only [World.size_alloc, World.size_setCell, World.size_drew, World.heap_drewN] at h_); omega)
  have hc5_0_0 := fun o => hc5 (w.heap.size) o (by (try simp only [World.size_alloc, World.size_setCell, World.size_drew, World.heap_drewN]); omega)
  have hf5_0_0 := fun o => hf5 (w.heap.size) o (by (try simp only [World.size_alloc, World.size_setCell, World.size_drew, World.heap_drewN]); omega)
  have hc5_1_0 := fun o => hc5 (w1.heap.size) o (by (try simp only [World.size_alloc, World.size_setCell, World.size_drew, World.heap_drewN]); omega)
  have hf5_1_0 := fun o => hf5 (w1.heap.size) o (by (try simp only [World.size_alloc, World.size_setCell, World.size_drew, World.heap_drewN]); omega)
  have hc5_2_0 := fun o => hc5 (w2.heap.size) o (by (try simp only [World.size_alloc, World.size_setCell, World.size_drew, World.heap_drewN]); omega)
  have hf5_2_0 := fun o => hf5 (w2.heap.size) o (by (try simp only [World.size_alloc, World.size_setCell, World.size_drew, World.heap_drewN]); omega)
  have hc5_3_0 := fun o => hc5 (w3.heap.size) o (by (try simp only [World.size_alloc, World.size_setCell, World.size_drew, World.heap_drewN]); omega)
  have hf5_3_0 := fun o => hf5 (w3.heap.size) o (by (try simp only [World.size_alloc, World.size_setCell, World.size_drew, World.heap_drewN]); omega)
  have hc5_4_0 := fun o => hc5 (w4.heap.size) o (by (try simp only [World.size_alloc, World.size_setCell, World.size_drew, World.heap_drewN]); omega)
  have hf5_4_0 := fun o => hf5 (w4.heap.size) o (by (try simp only [World.size_alloc, World.size_setCell, World.size_drew, World.heap_drewN]); omega)
  have HB5 : Below w.heap.size w w5 := vbelow_step (by repeat (first | (with_reducible exact Below.refl _ _) | (with_reducible exact HB4) | (with_reducible refine vbelow_alloc ?_ _) | (with_reducible refine vbelow_drew ?_) | (with_reducible refine vbelow_drewN ?_ _) | (with_reducible refine vbelow_set ?_ (by first | exact Nat.le_refl _ | (dsimp only; omega) | omega)))) hb5
  clear hc5 hf5 hb5 HB4
  have hz5_0_0 : w.heap.size < w5.heap.size := (by omega)
  have hz5_1_0 : w1.heap.size < w5.heap.size := (by omega)
  have hz5_2_0 : w2.heap.size < w5.heap.size := (by omega)
  have hz5_3_0 : w3.heap.size < w5.heap.size := (by omega)
  have hz5_4_0 : w4.heap.size < w5.heap.size := (by omega)
  go_wp2_with fail
  refine (back13 a b c p _ _ _ _ Hk.out _).mono ?_
  rintro e w6 ⟨rfl, hb6⟩
  obtain ⟨hc6, hf6⟩ := vbcell hb6
  have hz6 : w5.heap.size + 1 ≤ w6.heap.size := (by have h_ := hb6.size; (try simp only [World.size_alloc, World.size_setCell, World.size_drew, World.heap_drewN] at h_); omega)
  have hc6_0_0 := fun o => hc6 (w.heap.size) o (by (try simp only [World.size_alloc, World.size_setCell, World.size_drew, World.heap_drewN]); omega)
  have hf6_0_0 := fun o => hf6 (w.heap.size) o (by (try simp only [World.size_alloc, World.size_setCell, World.size_drew, World.heap_drewN]); omega)
  have hc6_1_0 := fun o => hc6 (w1.heap.size) o (by (try simp only [World.size_alloc, World.size_setCell, World.size_drew, World.heap_drewN]); omega)
  have hf6_1_0 := fun o => hf6 (w1.heap.size) o (by (try simp only [World.size_alloc, World.size_setCell, World.size_drew, World.heap_drewN]); omega)
  have hc6_2_0 := fun o => hc6 (w2.heap.size) o (by (try simp only [World.size_alloc, World.size_setCell, World.size_drew, World.heap_drewN]); omega)
  have hf6_2_0 := fun o => hf6 (w2.heap.size) o (by (try simp only [World.size_alloc, World.size_setCell, World.size_drew, World.heap_drewN]); omega)
  have hc6_3_0 := fun o => hc6 (w3.heap.size) o (by (try simp only [World.size_alloc, World.size_setCell, World.size_drew, World.heap_drewN]); omega)
  have hf6_3_0 := fun o => hf6 (w3.heap.size) o (by (try simp only [World.size_alloc, World.size_setCell, World.size_drew, World.heap_drewN]); omega)
  have hc6_4_0 := fun o => hc6 (w4.heap.size) o (by (try simp only [World.size_alloc, World.size_setCell, World.size_drew, World.heap_drewN]); omega)
  have hf6_4_0 := fun o => hf6 (w4.heap.size) o (by (try simp only [World.size_alloc, World.size_setCell, World.size_drew, World.heap_drewN]); omega)
  have hc6_5_0 := fun o => hc6 (w5.heap.size) o (by (try simp only [World.size_alloc, World.size_setCell, World.size_drew, World.heap_drewN]); omega)
  have hf6_5_0 := fun o => hf6 (w5.heap.size) o (by (try simp only [World.size_alloc, World.size_setCell, World.size_drew, World.heap_drewN]); omega)
  have HB6 : Below w.heap.size w w6 := vbelow_step (by repeat (first | (with_reducible exact Below.refl _ _) | (with_reducible exact HB5) | (with_reducible refine vbelow_alloc ?_ _) | (with_reducible refine vbelow_drew ?_) | (with_reducible refine vbelow_drewN ?_ _) | (with_reducible refine vbelow_set ?_ (by first | exact Nat.le_refl _ | (dsimp only; omega) | omega)))) hb6
  clear hc6 hf6 hb6 HB5
  have hz6_0_0 : w.heap.size < w6.heap.size := (by omega)
  have hz6_1_0 : w1.heap.size < w6.heap.size := (by omega)
  have hz6_2_0 : w2.heap.size < w6.heap.size := (by omega)
  have hz6_3_0 : w3.heap.size < w6.heap.size := (by omega)
  have hz6_4_0 : w4.heap.size < w6.heap.size := (by omega)
  have hz6_5_0 : w5.heap.size < w6.heap.size := (by omega)
  go_wp2_with fail
  refine (reset14 a b c _ _ _ _ Ht.out _).mono ?_
  rintro e w7 ⟨rfl, hb7⟩
  obtain ⟨hc7, hf7⟩ := vbcell hb7
  have hz7 : w6.heap.size + 1 ≤ w7.heap.size := (by have h_ := hb7.size; (try simp only [World.size_alloc, World.size_setCell, World.size_drew, World.heap_drewN] at h_); omega)
  have hc7_0_0 := fun o => hc7 (w.heap.size) o (by (try simp only [World.size_alloc, World.size_setCell, World.size_drew, World.heap_drewN]); omega)
  have hf7_0_0 := fun o => hf7 (w.heap.size) o (by (try simp only [World.size_alloc, World.size_setCell, World.size_drew, World.heap_drewN]); omega)
  have hc7_1_0 := fun o => hc7 (w1.heap.size) o (by (try simp only [World.size_alloc, World.size_setCell, World.size_drew, World.heap_drewN]); omega)
  have hf7_1_0 := fun o => hf7 (w1.heap.size) o (by (try simp only [World.size_alloc, World.size_setCell, World.size_drew, World.heap_drewN]); omega)
  have hc7_2_0 := fun o => hc7 (w2.heap.size) o (by (try simp only [World.size_alloc, World.size_setCell, World.size_drew, World.heap_drewN]); omega)
  have hf7_2_0 := fun o => hf7 (w2.heap.size) o (by (try simp only [World.size_alloc, World.size_setCell, World.size_drew, World.heap_drewN]); omega)
  have hc7_3_0 := fun o => hc7 (w3.heap.size) o (by (try simp only [World.size_alloc, World.size_setCell, World.size_drew, World.heap_drewN]); omega)
  have hf7_3_0 := fun o => hf7 (w3.heap.size) o (by (try simp only [World.size_alloc, World.size_setCell, World.size_drew, World.heap_drewN]); omega)
  have hc7_4_0 := fun o => hc7 (w4.heap.size) o (by (try simp only [World.size_alloc, World.size_setCell, World.size_drew, World.heap_drewN]); omega)
  have hf7_4_0 := fun o => hf7 (w4.heap.size) o (by (try simp only [World.size_alloc, World.size_setCell, World.size_drew, World.heap_drewN]); omega)
  have hc7_5_0 := fun o => hc7 (w5.heap.size) o (by (try simp only [World.size_alloc, World.size_setCell, World.size_drew, World.heap_drewN]); omega)
  have hf7_5_0 := fun o => hf7 (w5.heap.size) o (by (try simp only [World.size_alloc, World.size_setCell, World.size_drew, World.heap_drewN]); omega)
  have hc7_6_0 := fun o => hc7 (w6.heap.size) o (by (try simp only [World.size_alloc, World.size_setCell, World.size_drew, World.heap_drewN]); omega)
  have hf7_6_0 := fun o => hf7 (w6.heap.size) o (by (try simp only [World.size_alloc, World.size_setCell, World.size_drew, World.heap_drewN]); omega)
  have HB7 : Below w.heap.size w w7 := vbelow_step (by repeat (first | (with_reducible exact Below.refl _ _) | (with_reducible exact HB6) | (with_reducible refine vbelow_alloc ?_ _) | (with_reducible refine vbelow_drew ?_) | (with_reducible refine vbelow_drewN ?_ _) | (with_reducible refine vbelow_set ?_ (by first | exact Nat.le_refl _ | (dsimp only; omega) | omega)))) hb7
  clear hc7 hf7 hb7 HB6
  have hz7_0_0 : w.heap.size < w7.heap.size := (by omega)
  have hz7_1_0 : w1.heap.size < w7.heap.size := (by omega)
  have hz7_2_0 : w2.heap.size < w7.heap.size := (by omega)
  have hz7_3_0 : w3.heap.size < w7.heap.size := (by omega)
  have hz7_4_0 : w4.heap.size < w7.heap.size := (by omega)
  have hz7_5_0 : w5.heap.size < w7.heap.size := (by omega)
  have hz7_6_0 : w6.heap.size < w7.heap.size := (by omega)
  go_wp2_with fail
  refine (reset15 a b c _ _ _ _ Ht.out _).mono ?_
  rintro e w8 ⟨rfl, hb8⟩
  obtain ⟨hc8, hf8⟩ := vbcell hb8
  have hz8 : w7.heap.size + 1 ≤ w8.heap.size := (by have h_ := hb8.size; (try simp only [World.size_alloc, World.size_setCell, World.size_drew, World.heap_drewN] at h_); omega)
  have hc8_0_0 := fun o => hc8 (w.heap.size) o (by (try simp only [World.size_alloc, World.size_setCell, World.size_drew, World.heap_drewN]); omega)
  have hf8_0_0 := fun o => hf8 (w.heap.size) o (by (try simp only [World.size_alloc, World.size_setCell, World.size_drew, World.heap_drewN]); omega)
  have hc8_1_0 := fun o => hc8 (w1.heap.size) o (by (try simp only [World.size_alloc, World.size_setCell, World.size_drew, World.heap_drewN]); omega)
  have hf8_1_0 := fun o => hf8 (w1.heap.size) o (by (try simp only [World.size_alloc, World.size_setCell, World.size_drew, World.heap_drewN]); omega)
  have hc8_2_0 := fun o => hc8 (w2.heap.size) o (by (try simp only [World.size_alloc, World.size_setCell, World.size_drew, World.heap_drewN]); omega)
  have hf8_2_0 := fun o => hf8 (w2.heap.size) o (by (try simp only [World.size_alloc, World.size_setCell, World.size_drew, World.heap_drewN]); omega)
  have hc8_3_0 := fun o => hc8 (w3.heap.size) o (by (try simp only [World.size_alloc, World.size_setCell, World.size_drew, World.heap_drewN]); omega)
  have hf8_3_0 := fun o => hf8 (w3.heap.size) o (by (try simp only [World.size_alloc, World.size_setCell, World.size_drew, World.heap_drewN]); omega)
  have hc8_4_0 := fun o => hc8 (w4.heap.size) o (by (try simp only [World.size_alloc, World.size_setCell, World.size_drew, World.heap_drewN]); omega)
  have hf8_4_0 := fun o => hf8 (w4.heap.size) o (by (try simp only [World.size_alloc, World.size_setCell, World.size_drew, World.heap_drewN]); omega)
  have hc8_5_0 := fun o => hc8 (w5.heap.size) o (by (try simp only [World.size_alloc, World.size_setCell, World.size_drew, World.heap_drewN]); omega)
  have hf8_5_0 := fun o => hf8 (w5.heap.size) o (by (try simp only [World.size_alloc, World.size_setCell, World.size_drew, World.heap_drewN]); omega)
  have hc8_6_0 := fun o => hc8 (w6.heap.size) o (by (try simp only [World.size_alloc, World.size_setCell, World.size_drew, World.heap_drewN]); omega)
  have hf8_6_0 := fun o => hf8 (w6.heap.size) o (by (try simp only [World.size_alloc, World.size_setCell, World.size_drew, World.heap_drewN]); omega)
  have hc8_7_0 := fun o => hc8 (w7.heap.size) o (by (try simp only [World.size_alloc, World.size_setCell, World.size_drew, World.heap_drewN]); omega)
  have hf8_7_0 := fun o => hf8 (w7.heap.size) o (by (try simp only [World.size_alloc, World.size_setCell, World.size_drew, World.heap_drewN]); omega)
  have HB8 : Below w.heap.size w w8 := vbelow_step (by repeat (first | (with_reducible exact Below.refl _ _) | (with_reducible exact HB7) | (with_reducible refine vbelow_alloc ?_ _) | (with_reducible refine vbelow_drew ?_) | (with_reducible refine vbelow_drewN ?_ _) | (with_reducible refine vbelow_set ?_ (by first | exact Nat.le_refl _ | (dsimp only; omega) | omega)))) hb8
  clear hc8 hf8 hb8 HB7
  have hz8_0_0 : w.heap.size < w8.heap.size := (by omega)
  have hz8_1_0 : w1.heap.size < w8.heap.size := (by omega)
  have hz8_2_0 : w2.heap.size < w8.heap.size := (by omega)
  have hz8_3_0 : w3.heap.size < w8.heap.size := (by omega)
  have hz8_4_0 : w4.heap.size < w8.heap.size := (by omega)
  have hz8_5_0 : w5.heap.size < w8.heap.size := (by omega)
  have hz8_6_0 : w6.heap.size < w8.heap.size := (by omega)
  have hz8_7_0 : w7.heap.size < w8.heap.size := (by omega)
  go_wp2
  have Q0 : (w8.alloc (.cells #[.int .i64 t1, .int .i64 t2, .int .i64 t3] 23)).cell? ⟨w.heap.size, 0, none⟩ = some (.int .i64 a) := (by simp [go_sem, *])
  have Q1 : (w8.alloc (.cells #[.int .i64 t1, .int .i64 t2, .int .i64 t3] 23)).cell? ⟨w.heap.size, 1, none⟩ = some (.int .i64 b) := (by simp [go_sem, *])
  have Q2 : (w8.alloc (.cells #[.int .i64 t1, .int .i64 t2, .int .i64 t3] 23)).cell? ⟨w.heap.size, 2, none⟩ = some (.int .i64 c) := (by simp [go_sem, *])
  have Q3 : (w8.alloc (.cells #[.int .i64 t1, .int .i64 t2, .int .i64 t3] 23)).cell? ⟨w1.heap.size, 0, none⟩ = some (.int .i64 o1) := (by simp [go_sem, *])
  have Q4 : (w8.alloc (.cells #[.int .i64 t1, .int .i64 t2, .int .i64 t3] 23)).cell? ⟨w1.heap.size, 1, none⟩ = some (.int .i64 o2) := (by simp [go_sem, *])
  have Q5 : (w8.alloc (.cells #[.int .i64 t1, .int .i64 t2, .int .i64 t3] 23)).cell? ⟨w1.heap.size, 2, none⟩ = some (.int .i64 o3) := (by simp [go_sem, *])
  have Q6 : (w8.alloc (.cells #[.int .i64 t1, .int .i64 t2, .int .i64 t3] 23)).cell? ⟨w2.heap.size, 0, none⟩ = some (.int .i64 o1) := (by simp [go_sem, *])
  have Q7 : (w8.alloc (.cells #[.int .i64 t1, .int .i64 t2, .int .i64 t3] 23)).cell? ⟨w2.heap.size, 1, none⟩ = some (.int .i64 o2) := (by simp [go_sem, *])
  have Q8 : (w8.alloc (.cells #[.int .i64 t1, .int .i64 t2, .int .i64 t3] 23)).cell? ⟨w2.heap.size, 2, none⟩ = some (.int .i64 o3) := (by simp [go_sem, *])
  have Q9 : (w8.alloc (.cells #[.int .i64 t1, .int .i64 t2, .int .i64 t3] 23)).cell? ⟨w3.heap.size, 0, none⟩ = some (.int .i64 s1) := (by simp [go_sem, *])
  have Q10 : (w8.alloc (.cells #[.int .i64 t1, .int .i64 t2, .int .i64 t3] 23)).cell? ⟨w3.heap.size, 1, none⟩ = some (.int .i64 s2) := (by simp [go_sem, *])
  have Q11 : (w8.alloc (.cells #[.int .i64 t1, .int .i64 t2, .int .i64 t3] 23)).cell? ⟨w3.heap.size, 2, none⟩ = some (.int .i64 s3) := (by simp [go_sem, *])
  have Q12 : (w8.alloc (.cells #[.int .i64 t1, .int .i64 t2, .int .i64 t3] 23)).cell? ⟨w4.heap.size, 0, none⟩ = some (.int .i64 s1) := (by simp [go_sem, *])
  have Q13 : (w8.alloc (.cells #[.int .i64 t1, .int .i64 t2, .int .i64 t3] 23)).cell? ⟨w4.heap.size, 1, none⟩ = some (.int .i64 s2) := (by simp [go_sem, *])
  have Q14 : (w8.alloc (.cells #[.int .i64 t1, .int .i64 t2, .int .i64 t3] 23)).cell? ⟨w4.heap.size, 2, none⟩ = some (.int .i64 s3) := (by simp [go_sem, *])
  have Q15 : (w8.alloc (.cells #[.int .i64 t1, .int .i64 t2, .int .i64 t3] 23)).cell? ⟨w5.heap.size, 0, none⟩ = some (.int .i64 k1) := (by simp [go_sem, *])
  have Q16 : (w8.alloc (.cells #[.int .i64 t1, .int .i64 t2, .int .i64 t3] 23)).cell? ⟨w5.heap.size, 1, none⟩ = some (.int .i64 k2) := (by simp [go_sem, *])
  have Q17 : (w8.alloc (.cells #[.int .i64 t1, .int .i64 t2, .int .i64 t3] 23)).cell? ⟨w5.heap.size, 2, none⟩ = some (.int .i64 k3) := (by simp [go_sem, *])
  have Q18 : (w8.alloc (.cells #[.int .i64 t1, .int .i64 t2, .int .i64 t3] 23)).cell? ⟨w6.heap.size, 0, none⟩ = some (.int .i64 k1) := (by simp [go_sem, *])
  have Q19 : (w8.alloc (.cells #[.int .i64 t1, .int .i64 t2, .int .i64 t3] 23)).cell? ⟨w6.heap.size, 1, none⟩ = some (.int .i64 k2) := (by simp [go_sem, *])
  have Q20 : (w8.alloc (.cells #[.int .i64 t1, .int .i64 t2, .int .i64 t3] 23)).cell? ⟨w6.heap.size, 2, none⟩ = some (.int .i64 k3) := (by simp [go_sem, *])
  have Q21 : (w8.alloc (.cells #[.int .i64 t1, .int .i64 t2, .int .i64 t3] 23)).cell? ⟨w7.heap.size, 0, none⟩ = some (.int .i64 t1) := (by simp [go_sem, *])
  have Q22 : (w8.alloc (.cells #[.int .i64 t1, .int .i64 t2, .int .i64 t3] 23)).cell? ⟨w7.heap.size, 1, none⟩ = some (.int .i64 t2) := (by simp [go_sem, *])
  have Q23 : (w8.alloc (.cells #[.int .i64 t1, .int .i64 t2, .int .i64 t3] 23)).cell? ⟨w7.heap.size, 2, none⟩ = some (.int .i64 t3) := (by simp [go_sem, *])
  have Q24 : (w8.alloc (.cells #[.int .i64 t1, .int .i64 t2, .int .i64 t3] 23)).cell? ⟨w8.heap.size, 0, none⟩ = some (.int .i64 t1) := (by simp [go_sem, *])
  have Q25 : (w8.alloc (.cells #[.int .i64 t1, .int .i64 t2, .int .i64 t3] 23)).cell? ⟨w8.heap.size, 1, none⟩ = some (.int .i64 t2) := (by simp [go_sem, *])
  have Q26 : (w8.alloc (.cells #[.int .i64 t1, .int .i64 t2, .int .i64 t3] 23)).cell? ⟨w8.heap.size, 2, none⟩ = some (.int .i64 t3) := (by simp [go_sem, *])
  have HBq : Below w.heap.size w (w8.alloc (.cells #[.int .i64 t1, .int .i64 t2, .int .i64 t3] 23)) := (by repeat (first | (with_reducible exact Below.refl _ _) | (with_reducible exact HB8) | (with_reducible refine vbelow_alloc ?_ _) | (with_reducible refine vbelow_drew ?_) | (with_reducible refine vbelow_drewN ?_ _) | (with_reducible refine vbelow_set ?_ (by first | exact Nat.le_refl _ | (dsimp only; omega) | omega))))
  obtain ⟨W0, hW0⟩ : ∃ W0, W0 = w8.alloc (.cells #[.int .i64 t1, .int .i64 t2, .int .i64 t3] 23) := ⟨_, rfl⟩
  rw [← hW0] at HBq Q0 Q1 Q2 Q3 Q4 Q5 Q6 Q7 Q8 Q9 Q10 Q11 Q12 Q13 Q14 Q15 Q16 Q17 Q18 Q19 Q20 Q21 Q22 Q23 Q24 Q25 Q26 ⊢
  clear hc1_0_0 hc2_0_0 hc2_1_0 hc3_0_0 hc3_1_0 hc3_2_0 hc4_0_0 hc4_1_0 hc4_2_0 hc4_3_0 hc5_0_0 hc5_1_0 hc5_2_0 hc5_3_0 hc5_4_0 hc6_0_0 hc6_1_0 hc6_2_0 hc6_3_0 hc6_4_0 hc6_5_0 hc7_0_0 hc7_1_0 hc7_2_0 hc7_3_0 hc7_4_0 hc7_5_0 hc7_6_0 hc8_0_0 hc8_1_0 hc8_2_0 hc8_3_0 hc8_4_0 hc8_5_0 hc8_6_0 hc8_7_0 hf1_0_0 hf2_0_0 hf2_1_0 hf3_0_0 hf3_1_0 hf3_2_0 hf4_0_0 hf4_1_0 hf4_2_0 hf4_3_0 hf5_0_0 hf5_1_0 hf5_2_0 hf5_3_0 hf5_4_0 hf6_0_0 hf6_1_0 hf6_2_0 hf6_3_0 hf6_4_0 hf6_5_0 hf7_0_0 hf7_1_0 hf7_2_0 hf7_3_0 hf7_4_0 hf7_5_0 hf7_6_0 hf8_0_0 hf8_1_0 hf8_2_0 hf8_3_0 hf8_4_0 hf8_5_0 hf8_6_0 hf8_7_0 hz1_0_0 hz2_0_0 hz2_1_0 hz3_0_0 hz3_1_0 hz3_2_0 hz4_0_0 hz4_1_0 hz4_2_0 hz4_3_0 hz5_0_0 hz5_1_0 hz5_2_0 hz5_3_0 hz5_4_0 hz6_0_0 hz6_1_0 hz6_2_0 hz6_3_0 hz6_4_0 hz6_5_0 hz7_0_0 hz7_1_0 hz7_2_0 hz7_3_0 hz7_4_0 hz7_5_0 hz7_6_0 hz8_0_0 hz8_1_0 hz8_2_0 hz8_3_0 hz8_4_0 hz8_5_0 hz8_6_0 hz8_7_0 hz1 hz2 hz3 hz4 hz5 hz6 hz7 hz8 HB8
  clear hW0
  have q0 := gw_cell Q0
  have q1 := gw_cell Q1
  have q2 := gw_cell Q2
  have q3 := gw_cell Q3
  have q4 := gw_cell Q4
  have q5 := gw_cell Q5
  have q6 := gw_cell Q6
  have q7 := gw_cell Q7
  have q8 := gw_cell Q8
  have q9 := gw_cell Q9
  have q10 := gw_cell Q10
  have q11 := gw_cell Q11
  have q12 := gw_cell Q12
  have q13 := gw_cell Q13
  have q14 := gw_cell Q14
  have q15 := gw_cell Q15
  have q16 := gw_cell Q16
  have q17 := gw_cell Q17
  have q18 := gw_cell Q18
  have q19 := gw_cell Q19
  have q20 := gw_cell Q20
  have q21 := gw_cell Q21
  have q22 := gw_cell Q22
  have q23 := gw_cell Q23
  have q24 := gw_cell Q24
  have q25 := gw_cell Q25
  have q26 := gw_cell Q26
  refine wp_region_quietB (by kernel_rfl) (by kernel_rfl) ?_
  repeat (first | go_big_quiet_step ((first | (go_at_call 16; exact quietB_of (check16_no a b c _ Hm.out)) | (go_at_call 17; exact quietB_of (is17v a b c _ Hm.out)) | (go_at_call 18; exact quietB_of (left18 a b c l Hl.out _)) | (go_at_call 19; exact quietB_of (left19 a b c l Hl.out _)) | (go_at_call 20; exact quietB_of (alive20 _)))) | quiet_step ((first | (go_at_call 16; exact quietB_of (check16_no a b c _ Hm.out)) | (go_at_call 17; exact quietB_of (is17v a b c _ Hm.out)) | (go_at_call 18; exact quietB_of (left18 a b c l Hl.out _)) | (go_at_call 19; exact quietB_of (left19 a b c l Hl.out _)) | (go_at_call 20; exact quietB_of (alive20 _)))))
  refine wpQuiet_nil ?_
  rintro w9 ⟨⟨wq_, hb9⟩, hwq_⟩
  obtain rfl : w9 = wq_ := hwq_
  have HB9 : Below w.heap.size w w9 := vbelow_next hb9 HBq
  go_wp2
  go_ret
  exact ⟨rfl, HB9⟩

theorem acts3 (a b c room p : Int) (w : World) : Calls Try.prog 3 #[.agg #[.int .i64 a, .int .i64 b, .int .i64 c], .int .i64 room, .int .i64 p] w fun e w' => e = .returned (.bool true) ∧ Below w.heap.size w w' := by
  cases hm : accMay a b c with
  | true => exact acts3_yes a b c room p w hm
  | false => exact acts3_no a b c room p w hm
end Go.Proofs.Ytfjljlhlifnnlaa.Q
