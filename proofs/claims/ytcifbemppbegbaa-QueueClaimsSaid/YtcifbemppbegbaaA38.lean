/- Layer 10: the document's answers and the program's are the same (plain). -/
import Derived.Test.YtcifbemppbegbaaA35
namespace Go.Proofs.Ytcifbemppbegbaa.Q
open Go.RowKit Go.Proofs.YtcifbemppbegbaaW.PrintWords Go.Proofs.YtcifbemppbegbaaW.PrintMore Go.Proofs.YtcifbemppbegbaaW.PrintLast
set_option linter.unusedVariables false
set_option linter.unusedSimpArgs false
theorem w64_inc {i : Nat} (h : i < 1000000) : wrap64 ((i : Int) + 1) = ((i + 1 : Nat) : Int) := by unfold wrap64; omega
theorem w64_one {n : Int} (h0 : 0 ≤ n) (h : n < 1000000) : wrap64 (n + 1) = n + 1 := by unfold wrap64; omega
theorem msgs_eq (x : Int) (l0 : List S61) (l1 : List S40) (hl : l1.length ≤ 1000) : ∀ (d i k k' : Nat) (n : Int), i + d = l1.length → d < k → d < k' → 0 ≤ n → n ≤ i → ∃ r, queue_plain_messages.l0 k x n l1 (l1.length : Int) (i : Int) = some r ∧ rampartref10_messages.l0 k' x n (i : Int) l0 l1 = some r ∧ 0 ≤ r ∧ r ≤ l1.length
 | 0, i, k, k', n, hd, hk, hk', h0, h1 => by
  obtain ⟨k, rfl⟩ : ∃ j, k = j + 1 := ⟨k - 1, by omega⟩
  obtain ⟨k', rfl⟩ : ∃ j, k' = j + 1 := ⟨k' - 1, by omega⟩
  refine ⟨n, ?_, ?_, h0, by omega⟩
  ·unfold queue_plain_messages.l0; rw [if_neg (by omega)]
  ·unfold rampartref10_messages.l0; rw [if_neg (by omega)]
 | d + 1, i, k, k', n, hd, hk, hk', h0, h1 => by
  obtain ⟨k, rfl⟩ : ∃ j, k = j + 1 := ⟨k - 1, by omega⟩
  obtain ⟨k', rfl⟩ : ∃ j, k' = j + 1 := ⟨k' - 1, by omega⟩
  unfold queue_plain_messages.l0 rampartref10_messages.l0
  have hlt : (i : Int) < (l1.length : Int) := by omega
  have h0i : (0 : Int) ≤ (i : Int) := by omega
  simp only [if_pos hlt, if_pos h0i, w64_inc (show i < 1000000 by omega)]
  by_cases hx : (rd_T40 l1 (i : Int)).f0 = x
  ·simp only [if_pos hx, w64_one h0 (show n < 1000000 by omega)]
   exact msgs_eq x l0 l1 hl d (i + 1) k k' (n + 1) (by omega) (by omega) (by omega) (by omega) (by omega)
  ·simp only [if_neg hx]
   exact msgs_eq x l0 l1 hl d (i + 1) k k' n (by omega) (by omega) (by omega) h0 (by omega)
theorem msgs (x : Int) (l0 : List S61) (l1 : List S40) (hl : l1.length ≤ 1000) : ∃ r : Int, (∀ k, 1000 < k → queue_plain_messages.f k l0 l1 x = some r) ∧ (∀ k, 1000 < k → rampartref10_messages.f k l0 l1 x = some r) ∧ 0 ≤ r ∧ r ≤ l1.length := by
 obtain ⟨r, h1, h2, h3, h4⟩ := msgs_eq x l0 l1 hl l1.length 0 1001 1001 0 (by omega) (by omega) (by omega) (by omega) (by omega)
 refine ⟨r, fun k hk => ?_, fun k hk => ?_, h3, h4⟩
 ·obtain ⟨r', h1', h2', _, _⟩ := msgs_eq x l0 l1 hl l1.length 0 k 1001 0 (by omega) (by omega) (by omega) (by omega) (by omega)
  rw [h2] at h2'
  rw [Option.some.inj h2']
  exact h1'
 ·obtain ⟨r', h1', h2', _, _⟩ := msgs_eq x l0 l1 hl l1.length 0 1001 k 0 (by omega) (by omega) (by omega) (by omega) (by omega)
  rw [h1] at h1'
  rw [Option.some.inj h1']
  exact h2'
theorem rising_eq (x : Int) (l0 : List S61) (l1 : List S40) (a c nx e r : Int) (b : Bool) (f : List Int) (hl : l1.length ≤ 1000) (hf : f.length ≤ 1000) (hm : ∀ k, 1000 < k → rampartref10_messages.f k l0 l1 x = some r) : ∀ (d i k k' : Nat) (last : Int), i + d = f.length → d < k → d + 1001 < k' → (i = 0 → last = -1) → (0 < i → last = rd f ((i : Int) - 1) ∧ 0 ≤ last) →
  (queue_rising.l0 k nx last f (f.length : Int) (i : Int) = some true ∧ rampartref10_lane.l0 k' x (i : Int) l0 l1 a b c f nx e = some (decide (wrap64 ((f.length : Int) + r) ≤ wrap64 (a - c)))) ∨ (queue_rising.l0 k nx last f (f.length : Int) (i : Int) = some false ∧ rampartref10_lane.l0 k' x (i : Int) l0 l1 a b c f nx e = some false)
 | 0, i, k, k', last, hd, hk, hk', h0, h1 => by
  obtain ⟨k, rfl⟩ : ∃ j, k = j + 1 := ⟨k - 1, by omega⟩
  obtain ⟨k', rfl⟩ : ∃ j, k' = j + 1 := ⟨k' - 1, by omega⟩
  refine .inl ⟨?_, ?_⟩
  ·unfold queue_rising.l0; rw [if_neg (by omega)]
  ·unfold rampartref10_lane.l0; rw [if_neg (by omega), hm k' (by omega)]; rfl
 | d + 1, i, k, k', last, hd, hk, hk', h0, h1 => by
  obtain ⟨k, rfl⟩ : ∃ j, k = j + 1 := ⟨k - 1, by omega⟩
  obtain ⟨k', rfl⟩ : ∃ j, k' = j + 1 := ⟨k' - 1, by omega⟩
  unfold queue_rising.l0 rampartref10_lane.l0
  have hlt : (i : Int) < (f.length : Int) := by omega
  have h0i : (0 : Int) ≤ (i : Int) := by omega
  simp only [if_pos hlt, if_pos h0i, w64_inc (show i < 1000000 by omega)]
  have next : rd f (i : Int) > last → 0 ≤ rd f (i : Int) → rd f (i : Int) < nx → _ := fun hgt hge hlt => rising_eq x l0 l1 a c nx e r b f hl hf hm d (i + 1) k k' (rd f (i : Int)) (by omega) (by omega) (by omega) (fun h => absurd h (by omega)) (fun _ => ⟨by rw [show ((i + 1 : Nat) : Int) - 1 = (i : Int) by omega], hge⟩)
  rcases Nat.eq_zero_or_pos i with hi | hi
  ·have hlast := h0 hi
   by_cases hneg : rd f (i : Int) < 0
   ·rw [if_pos (by omega), if_pos hneg]; exact .inr ⟨rfl, rfl⟩
   ·rw [if_neg (by omega), if_neg hneg]
    by_cases hb : rd f (i : Int) ≥ nx
    ·rw [if_pos hb, if_pos hb]; exact .inr ⟨rfl, rfl⟩
    ·rw [if_neg hb, if_neg hb, if_neg (by omega)]
     exact next (by omega) (by omega) (by omega)
  ·obtain ⟨hlast, hl0⟩ := h1 hi
   have hw : wrap64 ((i : Int) - 1) = (i : Int) - 1 := by unfold wrap64; omega
   by_cases hle : rd f (i : Int) ≤ last
   ·rw [if_pos hle]
    refine .inr ⟨rfl, ?_⟩
    by_cases hneg : rd f (i : Int) < 0
    ·rw [if_pos hneg]
    ·rw [if_neg hneg]
     by_cases hb : rd f (i : Int) ≥ nx
     ·rw [if_pos hb]
     ·rw [if_neg hb, if_pos (show (i : Int) > 0 by omega), hw, if_pos (by omega), if_pos (by omega), if_pos (by rw [← hlast]; omega)]
   ·rw [if_neg hle, if_neg (show ¬ rd f (i : Int) < 0 by omega)]
    by_cases hb : rd f (i : Int) ≥ nx
    ·rw [if_pos hb, if_pos hb]; exact .inr ⟨rfl, rfl⟩
    ·rw [if_neg hb, if_neg hb, if_pos (show (i : Int) > 0 by omega), hw, if_pos (by omega), if_pos (by omega), if_neg (by rw [← hlast]; omega)]
     exact next (by omega) (by omega) (by omega)
/-- What a lane that may be is. -/
structure LaneOk (y : S61) : Prop where
 a0 : 1 ≤ y.f0 ∧ y.f0 ≤ 64
 a2 : 0 ≤ y.f2 ∧ y.f2 ≤ y.f0
 a4 : 0 ≤ y.f4 ∧ y.f4 ≤ 1099511627776
 a5 : 0 ≤ y.f5 ∧ y.f5 ≤ 1099511627776
theorem lane_eq (l0 : List S61) (l1 : List S40) (i k k' : Nat) (hi : i < l0.length) (hl : l1.length ≤ 1000) (hf : (rd_T61 l0 (i : Int)).f3.length ≤ 1000) (hk : 1000 < k) (hk' : 2002 < k') : ∃ t, queue_plain_lane.f k l0 l1 (i : Int) = some t ∧ rampartref10_lane.f k' l0 l1 (i : Int) = some t ∧ (t = true → LaneOk (rd_T61 l0 (i : Int))) := by
 unfold queue_plain_lane.f rampartref10_lane.f
 have hlt : (i : Int) < (l0.length : Int) := by omega
 have h0i : (0 : Int) ≤ (i : Int) := by omega
 simp only [if_pos hlt, if_pos h0i]
 generalize rd_T61 l0 (i : Int) = y at hf
 by_cases c1 : y.f0 < 1
 ·simp only [if_pos c1]; exact ⟨false, rfl, rfl, fun h => by cases h⟩
 simp only [if_neg c1]
 by_cases c2 : y.f0 > 64
 ·simp only [if_pos c2]; exact ⟨false, rfl, rfl, fun h => by cases h⟩
 simp only [if_neg c2]
 by_cases c3 : y.f2 < 0
 ·simp only [if_pos c3]; exact ⟨false, rfl, rfl, fun h => by cases h⟩
 simp only [if_neg c3]
 by_cases c4 : y.f2 > y.f0
 ·simp only [if_pos c4]; exact ⟨false, rfl, rfl, fun h => by cases h⟩
 simp only [if_neg c4]
 by_cases c5 : y.f4 < 0
 ·simp only [if_pos c5]; exact ⟨false, rfl, rfl, fun h => by cases h⟩
 simp only [if_neg c5]
 by_cases c6 : y.f4 > 1099511627776
 ·simp only [if_pos c6]; exact ⟨false, rfl, rfl, fun h => by cases h⟩
 simp only [if_neg c6]
 by_cases c7 : y.f5 < 0
 ·simp only [if_pos c7]; exact ⟨false, rfl, rfl, fun h => by cases h⟩
 simp only [if_neg c7]
 by_cases c8 : y.f5 > 1099511627776
 ·simp only [if_pos c8]; exact ⟨false, rfl, rfl, fun h => by cases h⟩
 simp only [if_neg c8]
 obtain ⟨r, m1, m2, _, _⟩ := msgs (i : Int) l0 l1 hl
 have hok : LaneOk y := ⟨by omega, by omega, by omega, by omega⟩
 unfold queue_rising.f
 rcases rising_eq (i : Int) l0 l1 y.f0 y.f2 y.f4 y.f5 r y.f1 y.f3 hl hf m2 y.f3.length 0 k k' (-1) (by omega) (by omega) (by omega) (fun _ => rfl) (fun h => absurd h (by omega)) with ⟨h1, h2⟩ | ⟨h1, h2⟩
 ·refine ⟨_, ?_, h2, fun _ => hok⟩
  rw [show ((0 : Nat) : Int) = 0 from rfl] at h1
  rw [h1, Option.bind_some, if_pos rfl, m1 k hk]
  rfl
 ·refine ⟨false, ?_, h2, fun h => by cases h⟩
  rw [show ((0 : Nat) : Int) = 0 from rfl] at h1
  rw [h1]
  rfl
end Go.Proofs.Ytcifbemppbegbaa.Q

/- Layer 10: Check, own, place and Same (plain). -/
namespace Go.Proofs.Ytcifbemppbegbaa.Q
open Go.RowKit Go.Proofs.YtcifbemppbegbaaW.PrintWords Go.Proofs.YtcifbemppbegbaaW.PrintMore Go.Proofs.YtcifbemppbegbaaW.PrintLast
set_option linter.unusedVariables false
set_option linter.unusedSimpArgs false
theorem rd_at (l0 : List S61) (i : Nat) (hi : i < l0.length) : l0[i]? = some (rd_T61 l0 (i : Int)) := by
 unfold rd_T61
 rw [Int.toNat_natCast, List.getD_eq_getElem?_getD, List.getElem?_eq_getElem hi]
 rfl
theorem rd_mem (l0 : List S61) (i : Nat) (hi : i < l0.length) : rd_T61 l0 (i : Int) ∈ l0 := List.mem_of_getElem? (rd_at l0 i hi)
theorem chk_l1 (l0 : List S61) (l1 : List S40) (hn : l0.length ≤ 1000) (hl : l1.length ≤ 1000) (hf : ∀ x ∈ l0, x.f3.length ≤ 1000) : ∀ (d i k k' : Nat), i + d = l0.length → d + 1001 < k → d + 2003 < k' → ∃ t, queue_Check.l1 k (l0.length : Int) (i : Int) l0 l1 = some t ∧ rampartref10_Check.l1 k' (i : Int) l0 l1 = some t ∧ (t = 0 → ∀ j : Nat, i ≤ j → j < l0.length → LaneOk (rd_T61 l0 (j : Int)))
 | 0, i, k, k', hd, hk, hk' => by
  obtain ⟨k, rfl⟩ : ∃ j, k = j + 1 := ⟨k - 1, by omega⟩
  obtain ⟨k', rfl⟩ : ∃ j, k' = j + 1 := ⟨k' - 1, by omega⟩
  unfold queue_Check.l1 rampartref10_Check.l1
  simp only [if_neg (show ¬ (i : Int) < (l0.length : Int) by omega)]
  exact ⟨0, rfl, rfl, fun _ j h1 h2 => by omega⟩
 | d + 1, i, k, k', hd, hk, hk' => by
  obtain ⟨k, rfl⟩ : ∃ j, k = j + 1 := ⟨k - 1, by omega⟩
  obtain ⟨k', rfl⟩ : ∃ j, k' = j + 1 := ⟨k' - 1, by omega⟩
  unfold queue_Check.l1 rampartref10_Check.l1
  simp only [if_pos (show (i : Int) < (l0.length : Int) by omega), w64_inc (show i < 1000000 by omega)]
  obtain ⟨t, h1, h2, h3⟩ := lane_eq l0 l1 i k k' (by omega) hl (hf _ (rd_mem l0 i (by omega))) (by omega) (by omega)
  rw [h1, h2]
  cases t with
  | false => exact ⟨100, rfl, rfl, fun h => by cases h⟩
  | true =>
   obtain ⟨t, g1, g2, g3⟩ := chk_l1 l0 l1 hn hl hf d (i + 1) k k' (by omega) (by omega) (by omega)
   refine ⟨t, g1, g2, fun ht j hj hjl => ?_⟩
   by_cases hji : j = i
   ·subst hji; exact h3 rfl
   ·exact g3 ht j (by omega) hjl
theorem chk_l0 (l0 : List S61) (l1 : List S40) (hn : l0.length ≤ 1000) (hl : l1.length ≤ 1000) (hf : ∀ x ∈ l0, x.f3.length ≤ 1000) : ∀ (d i k k' : Nat), i + d = l1.length → d + 2003 < k → d + 3005 < k' → ∃ t, queue_Check.l0 k l1 (l1.length : Int) (i : Int) l0 l1 l0 l1 = some t ∧ rampartref10_Check.l0 k' (i : Int) l0 l1 = some t ∧ (t = 0 → ∀ j : Nat, j < l0.length → LaneOk (rd_T61 l0 (j : Int)))
 | 0, i, k, k', hd, hk, hk' => by
  obtain ⟨k, rfl⟩ : ∃ j, k = j + 1 := ⟨k - 1, by omega⟩
  obtain ⟨k', rfl⟩ : ∃ j, k' = j + 1 := ⟨k' - 1, by omega⟩
  unfold queue_Check.l0 rampartref10_Check.l0
  simp only [if_neg (show ¬ (i : Int) < (l1.length : Int) by omega)]
  obtain ⟨t, h1, h2, h3⟩ := chk_l1 l0 l1 hn hl hf l0.length 0 k k' (by omega) (by omega) (by omega)
  exact ⟨t, h1, h2, fun ht j hj => h3 ht j (Nat.zero_le _) hj⟩
 | d + 1, i, k, k', hd, hk, hk' => by
  obtain ⟨k, rfl⟩ : ∃ j, k = j + 1 := ⟨k - 1, by omega⟩
  obtain ⟨k', rfl⟩ : ∃ j, k' = j + 1 := ⟨k' - 1, by omega⟩
  have ih := chk_l0 l0 l1 hn hl hf d (i + 1) k k' (by omega) (by omega) (by omega)
  unfold queue_Check.l0 rampartref10_Check.l0 queue_plain_message.f
  simp only [if_pos (show (i : Int) < (l1.length : Int) by omega), if_pos (show (0 : Int) ≤ (i : Int) by omega), w64_inc (show i < 1000000 by omega)]
  generalize rd_T40 l1 (i : Int) = m
  by_cases c1 : m.f0 < 0
  ·simp only [if_pos c1, if_neg (show ¬ m.f0 ≥ 0 by omega)]
   exact ⟨100, rfl, rfl, fun h => by cases h⟩
  ·simp only [if_neg c1, if_pos (show m.f0 ≥ 0 by omega)]
   by_cases c2 : m.f0 ≥ (l0.length : Int)
   ·simp only [if_pos c2, if_neg (show ¬ m.f0 < (l0.length : Int) by omega)]
    exact ⟨100, rfl, rfl, fun h => by cases h⟩
   ·simp only [if_neg c2, if_pos (show m.f0 < (l0.length : Int) by omega), if_pos (show 0 ≤ m.f0 by omega), Option.bind_some]
    by_cases c3 : m.f1 = (rd_T61 l0 m.f0).f5
    ·simp only [if_pos c3, if_pos (show (m.f1 == (rd_T61 l0 m.f0).f5) = true from beq_iff_eq.2 c3)]
     exact ih
    ·simp only [if_neg c3, beq_eq_false_iff_ne.2 c3]
     exact ⟨100, rfl, rfl, fun h => by cases h⟩
/-- Sizes within which the plain laws are told. -/
structure Fit (l0 : List S61) (l1 : List S40) : Prop where
 n0 : l0.length ≤ 1000
 n1 : l1.length ≤ 900
 f3 : ∀ x ∈ l0, x.f3.length ≤ 900
theorem check_eq {l0 : List S61} {l1 : List S40} (h : Fit l0 l1) : ∃ t, queue_Check.f 5000 l0 l1 = some t ∧ rampartref10_Check.f 5000 l0 l1 = some t ∧ (t = 0 → ∀ j : Nat, j < l0.length → LaneOk (rd_T61 l0 (j : Int))) := by
 unfold queue_Check.f rampartref10_Check.f
 by_cases c : (l0.length : Int) > 16
 ·simp only [if_pos c]
  exact ⟨100, rfl, rfl, fun h => by cases h⟩
 ·simp only [if_neg c]
  have h0 := h.n0
  have h1 := h.n1
  exact chk_l0 l0 l1 h.n0 (by omega) (fun x hx => by have := h.f3 x hx; omega) l1.length 0 5000 5000 (by omega) (by omega) (by omega)
theorem asked_eq {l0 : List S61} {l1 : List S40} {t : Int} (hc : rampartref10_Check.f 5000 l0 l1 = some t) (a : Int) : rampartref10_asked.f 5000 l0 l1 a = some (if t = 0 then (if a < 0 ∨ (l0.length : Int) ≤ a then 5 else 0) else 100) := by
 unfold rampartref10_asked.f
 rw [hc, Option.bind_some]
 by_cases h : t = 0
 ·simp only [if_pos h]
  by_cases c1 : a < 0
  ·simp only [if_pos c1, if_pos (show a < 0 ∨ (l0.length : Int) ≤ a from .inl c1)]
  ·simp only [if_neg c1]
   by_cases c2 : a ≥ (l0.length : Int)
   ·simp only [if_pos c2, if_pos (show a < 0 ∨ (l0.length : Int) ≤ a from .inr c2)]
   ·simp only [if_neg c2, if_neg (show ¬ (a < 0 ∨ (l0.length : Int) ≤ a) by omega)]
 ·simp only [if_neg h]
theorem own_l0 (l0 : List S61) (l1 : List S40) (hn : l0.length ≤ 1000) (hf : ∀ x ∈ l0, x.f3.length ≤ 1000) : ∀ (d i k : Nat) (m : List S40), i + d = l0.length → d < k → rampartref10_own.l0 k (i : Int) l0 l1 (l0.take i) m = some (l0, m)
 | 0, i, k, m, hd, hk => by
  obtain ⟨k, rfl⟩ : ∃ j, k = j + 1 := ⟨k - 1, by omega⟩
  unfold rampartref10_own.l0
  rw [if_neg (by omega), List.take_of_length_le (by omega)]
 | d + 1, i, k, m, hd, hk => by
  obtain ⟨k, rfl⟩ : ∃ j, k = j + 1 := ⟨k - 1, by omega⟩
  have hi : i < l0.length := by omega
  have h3 := hf _ (rd_mem l0 i hi)
  have ih := own_l0 l0 l1 hn hf d (i + 1) k m (by omega) (by omega)
  have ht : l0.take i ++ [rd_T61 l0 (i : Int)] = l0.take (i + 1) := by
   rw [List.take_add_one, rd_at l0 i hi]
   rfl
  unfold rampartref10_own.l0
  simp only [if_pos (show (i : Int) < (l0.length : Int) by omega), if_pos (show (0 : Int) ≤ (i : Int) by omega), Option.bind_some, List.nil_append, w64_inc (show i < 1000000 by omega), List.length_nil, Nat.zero_add]
  rw [if_pos (by omega), if_pos (by rw [List.length_take]; omega)]
  rw [show (⟨(rd_T61 l0 (i : Int)).f0, (rd_T61 l0 (i : Int)).f1, (rd_T61 l0 (i : Int)).f2, (rd_T61 l0 (i : Int)).f3, (rd_T61 l0 (i : Int)).f4, (rd_T61 l0 (i : Int)).f5⟩ : S61) = rd_T61 l0 (i : Int) from rfl, ht]
  exact ih
theorem own_eq {l0 : List S61} {l1 : List S40} (h : Fit l0 l1) : rampartref10_own.f 5000 l0 l1 = some (l0, l1) := by
 have h0 := h.n0
 have h1 := h.n1
 unfold rampartref10_own.f
 simp only [Option.bind_some, List.nil_append, List.length_nil, Nat.zero_add]
 rw [if_pos (by omega)]
 exact own_l0 l0 l1 h.n0 (fun x hx => by have := h.f3 x hx; omega) l0.length 0 5000 l1 (by omega) (by omega)
theorem place_l0 (f : List Int) (a n c : Int) (hf : f.length ≤ 1000) : ∀ (d i k k' : Nat), i + d = f.length → d < k → d < k' → ∃ r, slices_Index_int_int.l0 k f n (f.length : Int) (i : Int) = some r ∧ rampartref10_place.l0 k' f (i : Int) a n c = some r ∧ (r = 0 → 1 ≤ f.length)
 | 0, i, k, k', hd, hk, hk' => by
  obtain ⟨k, rfl⟩ : ∃ j, k = j + 1 := ⟨k - 1, by omega⟩
  obtain ⟨k', rfl⟩ : ∃ j, k' = j + 1 := ⟨k' - 1, by omega⟩
  unfold slices_Index_int_int.l0 rampartref10_place.l0
  simp only [if_neg (show ¬ (i : Int) < (f.length : Int) by omega)]
  exact ⟨-1, rfl, rfl, fun h => by cases h⟩
 | d + 1, i, k, k', hd, hk, hk' => by
  obtain ⟨k, rfl⟩ : ∃ j, k = j + 1 := ⟨k - 1, by omega⟩
  obtain ⟨k', rfl⟩ : ∃ j, k' = j + 1 := ⟨k' - 1, by omega⟩
  unfold slices_Index_int_int.l0 rampartref10_place.l0
  simp only [if_pos (show (i : Int) < (f.length : Int) by omega), if_pos (show (0 : Int) ≤ (i : Int) by omega), w64_inc (show i < 1000000 by omega)]
  by_cases c1 : rd f (i : Int) = n
  ·simp only [if_pos c1, if_pos c1.symm]
   exact ⟨_, rfl, rfl, fun _ => by omega⟩
  ·simp only [if_neg c1, if_neg (show ¬ n = rd f (i : Int) from fun e => c1 e.symm)]
   exact place_l0 f a n c hf d (i + 1) k k' (by omega) (by omega) (by omega)
theorem place_eq {l0 : List S61} {l1 : List S40} (h : Fit l0 l1) (i : Nat) (hi : i < l0.length) (n ep : Int) : ∃ r, queue_plain_place.f 5000 l0 l1 (i : Int) n ep = some r ∧ rampartref10_place.f 5000 l0 l1 (i : Int) n ep = some r ∧ (r = 0 → 1 ≤ (rd_T61 l0 (i : Int)).f3.length) := by
 have h3 := h.f3 _ (rd_mem l0 i hi)
 unfold queue_plain_place.f rampartref10_place.f slices_Index_int_int.f
 simp only [if_pos (show (i : Int) < (l0.length : Int) by omega), if_pos (show (0 : Int) ≤ (i : Int) by omega), if_neg (show ¬ (i : Int) < 0 by omega), if_neg (show ¬ (i : Int) ≥ (l0.length : Int) by omega)]
 by_cases c : (rd_T61 l0 (i : Int)).f5 = ep
 ·simp only [if_pos c]
  obtain ⟨r, h1, h2, h4⟩ := place_l0 (rd_T61 l0 (i : Int)).f3 (i : Int) n ep (by omega) (rd_T61 l0 (i : Int)).f3.length 0 5000 5000 (by omega) (by omega) (by omega)
  rw [show ((0 : Nat) : Int) = 0 from rfl] at h1 h2
  rw [h1, h2]
  exact ⟨r, rfl, rfl, h4⟩
 ·simp only [if_neg c]
  exact ⟨-1, rfl, rfl, fun h => by cases h⟩
theorem sameLane_l0 (a b c d_ e_ : Int) (p : Bool) (f : List Int) (hf : f.length ≤ 2000) (a' c' : Int) (p' : Bool) (d' e' : Int) : ∀ (d i k : Nat), i + d = f.length → d < k → rampartref10_sameLane.l0 k (i : Int) a p c f d_ e_ a' p' c' f d' e' = some true
 | 0, i, k, hd, hk => by
  obtain ⟨k, rfl⟩ : ∃ j, k = j + 1 := ⟨k - 1, by omega⟩
  unfold rampartref10_sameLane.l0
  rw [if_neg (by omega)]
 | d + 1, i, k, hd, hk => by
  obtain ⟨k, rfl⟩ : ∃ j, k = j + 1 := ⟨k - 1, by omega⟩
  unfold rampartref10_sameLane.l0
  simp only [if_pos (show (i : Int) < (f.length : Int) by omega), if_pos (show (0 : Int) ≤ (i : Int) by omega), w64_inc (show i < 1000000 by omega), if_true]
  exact sameLane_l0 a b c d_ e_ p f hf a' c' p' d' e' d (i + 1) k (by omega) (by omega)
theorem same_l1 (l0 : List S61) (l1 : List S40) (hl : l1.length ≤ 2000) : ∀ (d i k : Nat), i + d = l1.length → d < k → rampartref10_Same.l1 k (i : Int) l0 l1 l0 l1 = some true
 | 0, i, k, hd, hk => by
  obtain ⟨k, rfl⟩ : ∃ j, k = j + 1 := ⟨k - 1, by omega⟩
  unfold rampartref10_Same.l1
  rw [if_neg (by omega)]
 | d + 1, i, k, hd, hk => by
  obtain ⟨k, rfl⟩ : ∃ j, k = j + 1 := ⟨k - 1, by omega⟩
  unfold rampartref10_Same.l1
  simp only [if_pos (show (i : Int) < (l1.length : Int) by omega), if_pos (show (0 : Int) ≤ (i : Int) by omega), w64_inc (show i < 1000000 by omega), beq_self_eq_true, Bool.not_true, Bool.or_false, Bool.false_eq_true, if_false]
  exact same_l1 l0 l1 hl d (i + 1) k (by omega) (by omega)
theorem same_l0 (l0 : List S61) (l1 : List S40) (hn : l0.length ≤ 2000) (hl : l1.length ≤ 2000) (hf : ∀ x ∈ l0, x.f3.length ≤ 2000) : ∀ (d i k : Nat), i + d = l0.length → d + 2002 < k → rampartref10_Same.l0 k (i : Int) l0 l1 l0 l1 = some true
 | 0, i, k, hd, hk => by
  obtain ⟨k, rfl⟩ : ∃ j, k = j + 1 := ⟨k - 1, by omega⟩
  unfold rampartref10_Same.l0
  rw [if_neg (by omega)]
  exact same_l1 l0 l1 hl l1.length 0 k (by omega) (by omega)
 | d + 1, i, k, hd, hk => by
  obtain ⟨k, rfl⟩ : ∃ j, k = j + 1 := ⟨k - 1, by omega⟩
  have h3 := hf _ (rd_mem l0 i (by omega))
  have ih := same_l0 l0 l1 hn hl hf d (i + 1) k (by omega) (by omega)
  have hs : rampartref10_sameLane.f k (rd_T61 l0 (i : Int)).f0 (rd_T61 l0 (i : Int)).f1 (rd_T61 l0 (i : Int)).f2 (rd_T61 l0 (i : Int)).f3 (rd_T61 l0 (i : Int)).f4 (rd_T61 l0 (i : Int)).f5 (rd_T61 l0 (i : Int)).f0 (rd_T61 l0 (i : Int)).f1 (rd_T61 l0 (i : Int)).f2 (rd_T61 l0 (i : Int)).f3 (rd_T61 l0 (i : Int)).f4 (rd_T61 l0 (i : Int)).f5 = some true := by
   unfold rampartref10_sameLane.f
   simp only [if_true, bne_self_eq_false, Bool.false_eq_true, if_false]
   exact sameLane_l0 _ 0 _ _ _ _ _ h3 _ _ _ _ _ (rd_T61 l0 (i : Int)).f3.length 0 k (by omega) (by omega)
  unfold rampartref10_Same.l0
  simp only [if_pos (show (i : Int) < (l0.length : Int) by omega), if_pos (show (0 : Int) ≤ (i : Int) by omega), w64_inc (show i < 1000000 by omega)]
  rw [hs, Option.bind_some, if_pos rfl]
  exact ih
theorem same_refl {l0 : List S61} {l1 : List S40} (hn : l0.length ≤ 2000) (hl : l1.length ≤ 2000) (hf : ∀ x ∈ l0, x.f3.length ≤ 2000) : rampartref10_Same.f 5000 l0 l1 l0 l1 = some true := by
 unfold rampartref10_Same.f
 simp only [if_true]
 exact same_l0 l0 l1 hn hl hf l0.length 0 5000 (by omega) (by omega)
end Go.Proofs.Ytcifbemppbegbaa.Q

/- Layer 10: what the program and the document tell of a claim, of a publishing and of what is ready: the same. -/
namespace Go.Proofs.Ytcifbemppbegbaa.Q
open Go.RowKit Go.Proofs.YtcifbemppbegbaaW.PrintWords Go.Proofs.YtcifbemppbegbaaW.PrintMore Go.Proofs.YtcifbemppbegbaaW.PrintLast
set_option linter.unusedVariables false
set_option linter.unusedSimpArgs false
theorem Fit.small {l0 : List S61} {l1 : List S40} (h : Fit l0 l1) : Small l0 l1 := ⟨by have := h.n0; omega, by have := h.n1; omega, fun x hx => by have := h.f3 x hx; omega⟩
/-- Sizes within which two queues are compared. -/
structure Two (l0 : List S61) (l1 : List S40) : Prop where
 n0 : l0.length ≤ 2000
 n1 : l1.length ≤ 2000
 f3 : ∀ x ∈ l0, x.f3.length ≤ 2000
theorem Two.nil : Two [] [] := ⟨by simp, by simp, fun x hx => by cases hx⟩
theorem Fit.two {l0 : List S61} {l1 : List S40} (h : Fit l0 l1) : Two l0 l1 := ⟨by have := h.n0; omega, by have := h.n1; omega, fun x hx => by have := h.f3 x hx; omega⟩
theorem Two.set {l0 : List S61} {l1 l2 : List S40} {i : Nat} {z : S61} (h : Two l0 l1) (h2 : l2.length ≤ 2000) (hz : z.f3.length ≤ 2000) : Two (l0.set i z) l2 := ⟨by rw [List.length_set]; exact h.n0, h2, fun x hx => by
 rcases List.mem_or_eq_of_mem_set hx with hx | rfl
 ·exact h.f3 x hx
 ·exact hz⟩
theorem asked_at {l0 : List S61} {l1 : List S40} {t : Int} (hc : rampartref10_Check.f 5000 l0 l1 = some t) (a : Int) (r : Int) (h : (if t = 0 then (if a < 0 ∨ (l0.length : Int) ≤ a then (5 : Int) else 0) else 100) = r) : rampartref10_asked.f 5000 l0 l1 a = some r := by rw [asked_eq hc, h]
def ClaimTells (fn : Nat) (l0 : List S61) (l1 : List S40) (lane : Int) (r0 : List S61) (r1 : List S40) (a b c er : Int) : Prop := ∀ (w : World) (v : Value), QV w v l0 l1 → Calls Try.prog fn #[v, .int .i64 lane] w fun e w' => ∃ v', e = .returned (.tuple #[v', .agg #[.int .i64 a, .int .i64 b, .int .i64 c], .int .i64 er]) ∧ QO w' v' r0 r1 ∧ Below w.heap.size w w'
theorem Claim_both {l0 : List S61} {l1 : List S40} (h : Fit l0 l1) (lane : Int) : ∃ r0 r1 a b c er, ClaimTells 9 l0 l1 lane r0 r1 a b c er ∧ ClaimTells 10 l0 l1 lane r0 r1 a b c er ∧ Two r0 r1 := by
 obtain ⟨t, hk, hr, hok⟩ := check_eq h
 have hs := h.small
 have ho := own_eq h
 by_cases ht : t = 0
 ·subst ht
  by_cases hl : lane < 0 ∨ (l0.length : Int) ≤ lane
  ·have ha := asked_at hr lane 5 (by rw [if_pos rfl, if_pos hl])
   exact ⟨[], [], 0, 0, 0, 5, fun w v hv => Claim_range lane 5000 hv hk hl, fun w v hv => RClaim_asked lane 5000 hv ha (by decide), Two.nil⟩
  ·obtain ⟨i, rfl⟩ : ∃ i : Nat, lane = (i : Int) := ⟨lane.toNat, by omega⟩
   have hi : i < l0.length := by omega
   have ha := asked_at hr (i : Int) 0 (by rw [if_pos rfl, if_neg hl])
   have hx := rd_at l0 i hi
   have hy := hok rfl i hi
   have h3 := h.f3 _ (rd_mem l0 i hi)
   generalize rd_T61 l0 (i : Int) = y at hx hy h3
   by_cases c1 : y.f2 = 0
   ·exact ⟨[], [], 0, 0, 0, 101, fun w v hv => Claim_full i 5000 hv hk hs hx c1, fun w v hv => RClaim_full i 5000 hv ha ho hx c1, Two.nil⟩
   ·by_cases c2 : y.f4 = 1099511627776
    ·exact ⟨[], [], 0, 0, 0, 3, fun w v hv => Claim_many i 5000 hv hk hs hx c1 c2, fun w v hv => RClaim_many i 5000 hv ha ho hx c1 c2, Two.nil⟩
    ·have r2 : 0 ≤ y.f2 ∧ y.f2 ≤ 1099511627776 := by have := hy.a0; have := hy.a2; omega
     exact ⟨_, _, _, _, _, 0, fun w v hv => Claim_done i 5000 hv hk hs hx c1 c2 r2 hy.a4, fun w v hv => RClaim_done i 5000 hv ha ho hx c1 c2 (by omega) (by have := h.n0; omega) r2 hy.a4, h.two.set h.two.n1 (by rw [List.length_append]; show _ + 1 ≤ _; omega)⟩
 ·have ha := asked_at hr lane 100 (by rw [if_neg ht])
  exact ⟨[], [], 0, 0, 0, 100, fun w v hv => Claim_bad lane 5000 hv hk ht, fun w v hv => RClaim_asked lane 5000 hv ha (by decide), Two.nil⟩
def PublishTells (fn : Nat) (l0 : List S61) (l1 : List S40) (lane n ep x : Int) (r0 : List S61) (r1 : List S40) (er : Int) : Prop := ∀ (w : World) (v : Value), QV w v l0 l1 → Calls Try.prog fn #[v, .agg #[.int .i64 lane, .int .i64 n, .int .i64 ep], .int .u64 x] w fun e w' => ∃ v', e = .returned (.tuple #[v', .int .i64 er]) ∧ QO w' v' r0 r1 ∧ Below w.heap.size w w'
theorem Publish_both {l0 : List S61} {l1 : List S40} (h : Fit l0 l1) (lane n ep x : Int) : ∃ r0 r1 er, PublishTells 11 l0 l1 lane n ep x r0 r1 er ∧ PublishTells 12 l0 l1 lane n ep x r0 r1 er ∧ Two r0 r1 := by
 obtain ⟨t, hk, hr, hok⟩ := check_eq h
 have hs := h.small
 have ho := own_eq h
 by_cases ht : t = 0
 ·subst ht
  by_cases hl : lane < 0 ∨ (l0.length : Int) ≤ lane
  ·have ha := asked_at hr lane 5 (by rw [if_pos rfl, if_pos hl])
   exact ⟨[], [], 5, fun w v hv => Publish_range lane 5000 n ep x hv hk hl, fun w v hv => RPublish_asked lane n ep x 5000 hv ha (by decide), Two.nil⟩
  ·obtain ⟨i, rfl⟩ : ∃ i : Nat, lane = (i : Int) := ⟨lane.toNat, by omega⟩
   have hi : i < l0.length := by omega
   have ha := asked_at hr (i : Int) 0 (by rw [if_pos rfl, if_neg hl])
   have hx := rd_at l0 i hi
   have h3 := h.f3 _ (rd_mem l0 i hi)
   obtain ⟨pl, p1, p2, p3⟩ := place_eq h i hi n ep
   generalize rd_T61 l0 (i : Int) = y at hx h3 p3
   by_cases c1 : pl < 0
   ·exact ⟨[], [], 102, fun w v hv => Publish_less i 5000 5000 n ep x pl hv hk hs hx p1 c1, fun w v hv => RPublish_less pl i 5000 n ep x hv ha p2 c1, Two.nil⟩
   ·by_cases c2 : 0 < pl
    ·exact ⟨[], [], 103, fun w v hv => Publish_more i 5000 5000 n ep x pl hv hk hs hx p1 c2, fun w v hv => RPublish_more pl i 5000 n ep x hv ha p2 c2, Two.nil⟩
    ·obtain rfl : pl = 0 := by omega
     exact ⟨_, _, 0, fun w v hv => Publish_done i 5000 5000 n ep x hv hk hs hx p1 (p3 rfl), fun w v hv => RPublish_done i 5000 n ep x hv ha p2 ho hx (p3 rfl) (by have := h.n0; omega) (by have := h.n1; omega) (by omega), h.two.set (by rw [List.length_append]; have := h.n1; show _ + 1 ≤ _; omega) (by rw [List.length_drop]; omega)⟩
 ·have ha := asked_at hr lane 100 (by rw [if_neg ht])
  exact ⟨[], [], 100, fun w v hv => Publish_bad lane 5000 n ep x hv hk ht, fun w v hv => RPublish_asked lane n ep x 5000 hv ha (by decide), Two.nil⟩
def ReadyTells (fn : Nat) (l0 : List S61) (l1 : List S40) (lane n ep : Int) (b : Bool) : Prop := ∀ (w : World) (v : Value), QV w v l0 l1 → Calls Try.prog fn #[v, .agg #[.int .i64 lane, .int .i64 n, .int .i64 ep]] w fun e w' => e = .returned (.bool b) ∧ Below w.heap.size w w'
theorem RReady_QV (k : Nat) (a b c : Int) (r : Bool) {v : Value} {l0 : List S61} {l1 : List S40} {w : World} (h : QV w v l0 l1) (hk : rampartref10_Ready.f k l0 l1 a b c = some r) : Calls Try.prog 15 #[v, .agg #[.int .i64 a, .int .i64 b, .int .i64 c]] w fun e w' => e = .returned (.bool r) ∧ Below w.heap.size w w' := by
 obtain ⟨A0, c0, A1, c1, rfl, h0, h1, hC0, hC1⟩ := h
 exact rampartref10_Ready.calls k A0 c0 l0 A1 c1 l1 a b c r w hC0 h0 hC1 h1 hk
theorem Same_QV {v v' : Value} {l0 : List S61} {l1 : List S40} {w : World} (h : QV w v l0 l1) (h' : QV w v' l0 l1) (h2 : Two l0 l1) : Calls Try.prog 13 #[v, v'] w fun e w' => e = .returned (.bool true) ∧ Below w.heap.size w w' := by
 obtain ⟨A0, c0, A1, c1, rfl, h0, h1, hC0, hC1⟩ := h
 obtain ⟨A0', c0', A1', c1', rfl, h0', h1', hC0', hC1'⟩ := h'
 exact rampartref10_Same.calls 5000 A0 c0 l0 A1 c1 l1 A0' c0' l0 A1' c1' l1 true w hC0 h0 hC1 h1 hC0' h0' hC1' h1' (same_refl h2.n0 h2.n1 h2.f3)
theorem Ready_both {l0 : List S61} {l1 : List S40} (h : Fit l0 l1) (lane n ep : Int) : ∃ b, ReadyTells 14 l0 l1 lane n ep b ∧ ReadyTells 15 l0 l1 lane n ep b := by
 obtain ⟨t, hk, hr, _⟩ := check_eq h
 have key : ∃ b, queue_Ready.f 5000 l0 l1 lane n ep = some b ∧ rampartref10_Ready.f 5000 l0 l1 lane n ep = some b := by
  unfold queue_Ready.f rampartref10_Ready.f
  rw [hk, hr, Option.bind_some, Option.bind_some]
  by_cases ht : t = 0
  ·simp only [if_pos ht]
   by_cases hl : lane < 0 ∨ (l0.length : Int) ≤ lane
   ·have hp : rampartref10_place.f 5000 l0 l1 lane n ep = some (-1) := by
     unfold rampartref10_place.f
     by_cases c1 : lane < 0
     ·rw [if_pos c1]
     ·rw [if_neg c1, if_pos (by omega)]
    rw [hp]
    refine ⟨false, ?_, rfl⟩
    by_cases c1 : lane < 0
    ·rw [if_neg (by omega)]
    ·rw [if_pos (by omega), if_neg (by omega)]
   ·obtain ⟨i, rfl⟩ : ∃ i : Nat, lane = (i : Int) := ⟨lane.toNat, by omega⟩
    obtain ⟨pl, p1, p2, _⟩ := place_eq h i (by omega) n ep
    rw [p1, p2]
    exact ⟨pl == 0, by rw [if_pos (by omega), if_pos (by omega)]; rfl, rfl⟩
  ·simp only [if_neg ht]
   exact ⟨false, rfl, rfl⟩
 obtain ⟨b, h1, h2⟩ := key
 exact ⟨b, fun w v hv => Ready_QV 5000 lane n ep b hv h1, fun w v hv => RReady_QV 5000 lane n ep b hv h2⟩
theorem light_fit (l0 : List S61) (l1 : List S40) : Fit (lt0 l0) (lt1 l1) := by
 refine ⟨by rw [lt0_length]; omega, by unfold lt1; rw [List.length_take]; omega, fun x hx => ?_⟩
 unfold lt0 at hx
 obtain ⟨y, _, rfl⟩ := List.mem_map.1 hx
 show (y.f3.take 70).length ≤ _
 rw [List.length_take]
 omega
end Go.Proofs.Ytcifbemppbegbaa.Q
