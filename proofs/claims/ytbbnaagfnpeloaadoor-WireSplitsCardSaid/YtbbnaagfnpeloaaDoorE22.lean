/- Layer 3, the plain law of WireSplits: both ways to cut bytes into pieces are one; the pieces are the beginning of the bytes. Conditions: the bytes are bytes, the number is of its kind. -/
import Derived.Test.YtbbnaagfnpeloaaDoorQ2x5
import Derived.ChangeSlices
import Derived.OpenShut
namespace Go.Proofs.YtbbnaagfnpeloaaDoor.Q2
open Go.RowKit Go.Proofs.YtbbnaagfnpeloaaDoorW.PrintWords Go.Proofs.YtbbnaagfnpeloaaDoorW.PrintLast Go.Proofs.YtbbnaagfnpeloaaDoorW.PrintMore
set_option linter.unusedVariables false
set_option linter.unusedSimpArgs false
/-- The pieces, at most m. -/
def pcs : Nat → List Int → List (List Int)
  | 0, _ => []
  | m + 1, y => if y = [] then [] else y.take 16 :: pcs m (y.drop 16)
theorem pcs_nil (m : Nat) : pcs m [] = [] := by cases m <;> simp [pcs]
theorem pcs_cons (m : Nat) (y : List Int) (h : y ≠ []) : pcs (m + 1) y = y.take 16 :: pcs m (y.drop 16) := by simp [pcs, h]
theorem wsm (x : Int) (h : -9223372036854775808 ≤ x) (h2 : x ≤ 9223372036854775807) : wrap64 x = x := by unfold wrap64; omega
theorem w_sub (n p : Nat) (h : p < n) (hn : n ≤ 1000) : wrap64 ((n : Int) - (p : Int)) = ((n - p : Nat) : Int) := (wsm _ (by omega) (by omega)).trans (by omega)
theorem w_add (q p : Nat) (h : p ≤ 4000) (hn : q ≤ 1000) : wrap64 ((q : Int) + (p : Int)) = ((p + q : Nat) : Int) := (wsm _ (by omega) (by omega)).trans (by omega)
theorem w_add16 (p : Nat) (h : p ≤ 4000) : wrap64 ((p : Int) + 16) = ((p + 16 : Nat) : Int) := (wsm _ (by omega) (by omega)).trans (by omega)
theorem w_add1 (p : Nat) (h : p ≤ 4000) : wrap64 ((p : Int) + 1) = ((p + 1 : Nat) : Int) := (wsm _ (by omega) (by omega)).trans (by omega)
theorem mn_min (n q : Nat) (hq : q = min n 16) : mn (n : Int) 16 = (q : Int) := by unfold mn; split <;> omega
theorem mn16 (y : List Int) : (mn (y.length : Int) 16).toNat = min y.length 16 := by unfold mn; split <;> omega
theorem take16 (y : List Int) : y.take (min y.length 16) = y.take 16 := by
  rcases Nat.le_total y.length 16 with h | h
  · rw [Nat.min_eq_left h, List.take_of_length_le (Nat.le_refl _), List.take_of_length_le h]
  · rw [Nat.min_eq_right h]
theorem drop16 (y : List Int) : y.drop (min y.length 16) = y.drop 16 := by
  rcases Nat.le_total y.length 16 with h | h
  · rw [Nat.min_eq_left h, List.drop_eq_nil_of_le (Nat.le_refl _), List.drop_eq_nil_of_le h]
  · rw [Nat.min_eq_right h]
theorem pcs_flatten (m : Nat) : ∀ y : List Int, (pcs m y).flatten = y.take (16 * m) := by
  induction m with
  | zero => intro y; simp [pcs]
  | succ m ih =>
    intro y
    by_cases h : y = []
    · subst h; simp [pcs]
    · rw [pcs_cons m y h, List.flatten_cons, ih]
      have e : 16 * (m + 1) = 16 + 16 * m := by omega
      rw [e, List.take_add]
theorem pcs_len (m : Nat) : ∀ y : List Int, (pcs m y).length ≤ y.length := by
  induction m with
  | zero => intro y; simp [pcs]
  | succ m ih =>
    intro y
    by_cases h : y = []
    · subst h; simp [pcs]
    · rw [pcs_cons m y h, List.length_cons]
      have := ih (y.drop 16)
      have h1 : 0 < y.length := List.length_pos_iff.2 h
      rw [List.length_drop] at this
      omega
theorem ref_l0 : ∀ (d : Nat) (y : List Int) (a1 : Int) (acc : List (List Int)) (k : Nat), y.length ≤ d → d < k → acc.length + y.length ≤ 1000 →
    rampartref03_Split.l0 k y a1 acc = some (acc ++ pcs (a1 - acc.length).toNat y) := by
  intro d
  induction d with
  | zero =>
    intro y a1 acc k hy hk hl
    obtain ⟨k, rfl⟩ : ∃ m, k = m + 1 := ⟨k - 1, by omega⟩
    have hy0 : y = [] := List.length_eq_zero_iff.1 (by omega)
    subst hy0
    simp only [rampartref03_Split.l0]
    rw [if_neg (by simp), pcs_nil, List.append_nil]
  | succ d ih =>
    intro y a1 acc k hy hk hl
    obtain ⟨k, rfl⟩ : ∃ m, k = m + 1 := ⟨k - 1, by omega⟩
    by_cases h0 : y = []
    · subst h0
      simp only [rampartref03_Split.l0]
      rw [if_neg (by simp), pcs_nil, List.append_nil]
    · have hp : 0 < y.length := List.length_pos_iff.2 h0
      simp only [rampartref03_Split.l0]
      rw [if_pos (by omega)]
      by_cases ha : (acc.length : Int) < a1
      · have hmn : (0 : Int) ≤ mn (y.length : Int) 16 ∧ mn (y.length : Int) 16 ≤ (y.length : Int) := by unfold mn; split <;> omega
        rw [if_pos ha, Option.bind_some, if_pos hmn.1, if_pos hmn.2, Option.bind_some, mn16, take16, drop16]
        rw [if_pos (by simp only [List.length_nil, List.length_take]; omega), if_pos (by omega)]
        rw [ih _ _ _ _ (by rw [List.length_drop]; omega) (by omega) (by rw [List.length_append, List.length_singleton, List.length_drop]; omega)]
        obtain ⟨m, hm⟩ : ∃ m, (a1 - acc.length).toNat = m + 1 := ⟨(a1 - acc.length).toNat - 1, by omega⟩
        rw [hm, pcs_cons m y h0, List.nil_append, List.append_assoc, List.length_append, List.length_singleton]
        have e : (a1 - ((acc.length + 1 : Nat) : Int)).toNat = m := by omega
        rw [e]; rfl
      · rw [if_neg ha]
        have e : (a1 - acc.length).toNat = 0 := by omega
        rw [e]; simp [pcs]
theorem wire_l0 : ∀ (d : Nat) (y : List Int) (a1 : Int) (acc : List (List Int)) (p : Nat) (k : Nat), y.length - p ≤ d → d < k → acc.length + y.length ≤ 1000 + p → p ≤ 2000 → y.length ≤ 1000 →
    wire_Split.l0 k y a1 acc (p : Int) = some (acc ++ pcs (a1 - acc.length).toNat (y.drop p)) := by
  intro d
  induction d with
  | zero =>
    intro y a1 acc p k hy hk hl hp hyl
    obtain ⟨k, rfl⟩ : ∃ m, k = m + 1 := ⟨k - 1, by omega⟩
    simp only [wire_Split.l0]
    rw [if_neg (by omega), List.drop_eq_nil_of_le (by omega), pcs_nil, List.append_nil]
  | succ d ih =>
    intro y a1 acc p k hy hk hl hp hyl
    obtain ⟨k, rfl⟩ : ∃ m, k = m + 1 := ⟨k - 1, by omega⟩
    simp only [wire_Split.l0]
    by_cases h0 : p < y.length
    · rw [if_pos (by omega)]
      by_cases ha : (acc.length : Int) < a1
      · have hdl : (y.drop p).length = y.length - p := List.length_drop
        obtain ⟨q, hq⟩ : ∃ q, q = min (y.drop p).length 16 := ⟨_, rfl⟩
        have hq1 : 0 < q ∧ q ≤ 16 ∧ p + q ≤ y.length := by rw [hdl] at hq; omega
        have hp4 : p ≤ 4000 := by omega
        have hq4 : q ≤ 1000 := by omega
        have f1 : (0 : Int) ≤ (p : Int) := by omega
        have f2 : (p : Int) ≤ ((p + q : Nat) : Int) := by omega
        have f3 : ((p + q : Nat) : Int) ≤ (y.length : Int) := by omega
        have f4 : acc.length < 5864062014805 := by omega
        rw [if_pos ha, if_pos f1, w_sub _ _ h0 hyl, ← hdl, mn_min _ _ hq, w_add q p hp4 hq4, w_add16 p hp4]
        rw [if_pos f2, if_pos f3, if_pos f4]
        have e1 : (((p + q : Nat) : Int)).toNat = p + q := by omega
        have e2 : ((p : Nat) : Int).toNat = p := by omega
        rw [e1, e2]
        have e3 : (y.take (p + q)).drop p = (y.drop p).take 16 := by
          rw [List.drop_take]
          have e4 : p + q - p = q := by omega
          rw [e4, hq, take16]
        rw [e3, ih _ _ _ _ _ (by omega) (by omega) (by rw [List.length_append, List.length_singleton]; omega) (by omega) hyl]
        obtain ⟨m, hm⟩ : ∃ m, (a1 - acc.length).toNat = m + 1 := ⟨(a1 - acc.length).toNat - 1, by omega⟩
        have hne : y.drop p ≠ [] := fun e => by have := congrArg List.length e; rw [List.length_nil] at this; omega
        rw [hm, pcs_cons m _ hne, List.append_assoc, List.length_append, List.length_singleton, List.drop_drop]
        have e : (a1 - ((acc.length + 1 : Nat) : Int)).toNat = m := by omega
        rw [e]; rfl
      · rw [if_neg ha]
        have e : (a1 - acc.length).toNat = 0 := by omega
        rw [e]; simp [pcs]
    · rw [if_neg (by omega), List.drop_eq_nil_of_le (by omega), pcs_nil, List.append_nil]
theorem same_l0 : ∀ (d : Nat) (t : List (List Int)) (i : Nat) (k : Nat), t.length - i ≤ d → d < k → i ≤ t.length → t.length ≤ 1000 →
    rampartref03_SamePieces.l0 k t t (i : Int) = some true := by
  intro d
  induction d with
  | zero =>
    intro t i k h hk hi ht
    obtain ⟨k, rfl⟩ : ∃ m, k = m + 1 := ⟨k - 1, by omega⟩
    simp only [rampartref03_SamePieces.l0]
    rw [if_neg (by omega)]
  | succ d ih =>
    intro t i k h hk hi ht
    obtain ⟨k, rfl⟩ : ∃ m, k = m + 1 := ⟨k - 1, by omega⟩
    simp only [rampartref03_SamePieces.l0]
    by_cases h0 : i < t.length
    · have hi4 : i ≤ 4000 := by omega
      rw [if_pos (by omega), if_pos (by omega), if_pos (by omega), if_pos trivial, w_add1 i hi4]
      exact ih t (i + 1) k (by omega) (by omega) (by omega) ht
    · rw [if_neg (by omega)]
theorem law_end (y : List Int) (a1 : Int) (t : List (List Int)) (m : Nat) (hf : t.flatten = y.take m) (hm : 30 ≤ a1 → y.length ≤ m) (k : Nat) :
    rampartlaw03_WireSplits.l0 (k + 1) y a1 t t.flatten (t.length : Int) = some true := by
  simp only [rampartlaw03_WireSplits.l0]
  rw [if_neg (by omega)]
  have h1 : t.flatten.length = min m y.length := by rw [hf, List.length_take]
  rw [if_pos (by omega), if_pos (by omega)]
  have h2 : y.take ((t.flatten.length : Int)).toNat = t.flatten := by
    rw [Int.toNat_natCast, h1, hf]
    rcases Nat.le_total m y.length with h | h
    · rw [Nat.min_eq_left h]
    · rw [Nat.min_eq_right h, List.take_of_length_le (Nat.le_refl _), List.take_of_length_le h]
  rw [h2, if_pos rfl]
  by_cases h3 : a1 < 30
  · rw [if_pos h3]; rfl
  · have := hm (by omega)
    rw [if_neg h3, if_pos (by omega)]; rfl
theorem law_l0 (y : List Int) (a1 : Int) (t : List (List Int)) (m : Nat) (hy : y.length ≤ 400) (ht : t.length ≤ 1000) (hf : t.flatten = y.take m) (hm : 30 ≤ a1 → y.length ≤ m) :
    ∀ (d i k : Nat), t.length - i ≤ d → d < k → i ≤ t.length → rampartlaw03_WireSplits.l0 k y a1 t ((t.take i).flatten) (i : Int) = some true := by
  have hlen : t.flatten.length ≤ 400 := by rw [hf, List.length_take]; omega
  intro d
  induction d with
  | zero =>
    intro i k h hk hi
    obtain ⟨k, rfl⟩ : ∃ m, k = m + 1 := ⟨k - 1, by omega⟩
    obtain rfl : i = t.length := by omega
    rw [List.take_of_length_le (Nat.le_refl _)]
    exact law_end y a1 t m hf hm k
  | succ d ih =>
    intro i k h hk hi
    obtain ⟨k, rfl⟩ : ∃ m, k = m + 1 := ⟨k - 1, by omega⟩
    by_cases h0 : i < t.length
    · have hi4 : i ≤ 4000 := by omega
      have hrd : rd_L2 t (i : Int) = t[i] := by
        unfold rd_L2
        rw [Int.toNat_natCast, List.getD_eq_getElem?_getD, List.getElem?_eq_getElem h0]; rfl
      have hnext : (t.take i).flatten ++ t[i] = (t.take (i + 1)).flatten := by
        rw [List.take_succ_eq_append_getElem h0, List.flatten_append]; simp
      have hl2 : (t.take (i + 1)).flatten.length ≤ 400 := by
        have e : t.flatten = (t.take (i + 1)).flatten ++ (t.drop (i + 1)).flatten := by rw [← List.flatten_append, List.take_append_drop]
        rw [e, List.length_append] at hlen
        omega
      have hl3 : (t.take i).flatten.length + t[i].length ≤ 400 := by rw [← List.length_append, hnext]; exact hl2
      simp only [rampartlaw03_WireSplits.l0]
      rw [if_pos (by omega), if_pos (by omega), hrd, if_pos (by omega), w_add1 i hi4, hnext]
      exact ih (i + 1) k (by omega) (by omega) (by omega)
    · obtain rfl : i = t.length := by omega
      rw [List.take_of_length_le (Nat.le_refl _)]
      exact law_end y a1 t m hf hm k
theorem splits_pure (l0 : List Int) (a1 : Int) : ∃ k, rampartlaw03_WireSplits.f k l0 a1 = some true := by
  obtain ⟨y, hy⟩ : ∃ y, y = l0.take 400 := ⟨_, rfl⟩
  have hl : y.length ≤ 400 := by rw [hy, List.length_take]; omega
  obtain ⟨k, hk⟩ : ∃ k : Nat, 1000 < k := ⟨1001, by omega⟩
  refine ⟨k, ?_⟩
  have h1 : wire_Split.f k y a1 = some (pcs a1.toNat y) := by
    have h := wire_l0 1000 y a1 [] 0 k (by omega) hk (by rw [List.length_nil]; omega) (by omega) (by omega)
    rw [List.nil_append, List.drop_zero, List.length_nil] at h
    have e : (a1 - ((0 : Nat) : Int)).toNat = a1.toNat := by omega
    rw [e] at h
    exact h
  have h2 : rampartref03_Split.f k y a1 = some (pcs a1.toNat y) := by
    have h := ref_l0 1000 y a1 [] k (by omega) hk (by rw [List.length_nil]; omega)
    rw [List.nil_append, List.length_nil] at h
    have e : (a1 - ((0 : Nat) : Int)).toNat = a1.toNat := by omega
    rw [e] at h
    exact h
  have hpl : (pcs a1.toNat y).length ≤ 1000 := Nat.le_trans (pcs_len _ _) (by omega)
  have h3 : rampartref03_SamePieces.f k (pcs a1.toNat y) (pcs a1.toNat y) = some true := by
    unfold rampartref03_SamePieces.f
    rw [if_pos rfl]
    exact same_l0 1000 _ 0 k (by omega) hk (by omega) hpl
  have h4 : rampartlaw03_WireSplits.l0 k y a1 (pcs a1.toNat y) ([] : List Int) 0 = some true := by
    have h := law_l0 y a1 (pcs a1.toNat y) (16 * a1.toNat) hl hpl (pcs_flatten _ _) (by omega) 1000 0 k (by omega) hk (by omega)
    rw [List.take_zero] at h
    exact h
  unfold rampartlaw03_WireSplits.f
  rw [← hy]
  simp only [Option.bind_some, h1, h2, h3, if_true]
  exact h4
open Go.ChangeShapes Go.WideShapes in
theorem open_bytes {H : Type} {enc : TypeId × Value → H} {w : World} {base : Nat} {spare : Nat → Bool} {held : Bool} {a : Option Addr} {len cap : Nat} {d : DataW H} {p : List MemPlace} (h : DataW.Trod enc Tryd.prog w base spare held 27 (.slice a len cap) d p) :
    len ≤ 9223372036854775807 ∧ len ≤ cap ∧ ∃ xs : List Int, (Kd.int .u8).C w a len xs := by
  obtain ⟨fuel, hf⟩ := h
  rcases open_ints Tryd.underlying27 Tryd.underlying5 (by kernel_rfl) hf with ⟨hcs, _⟩ | ⟨ad, l, c, zs, hcs, _, hl, hm, hz, _, hcell, hwf⟩
  · simp [Value.cells] at hcs
    obtain ⟨rfl, rfl, rfl⟩ := hcs
    exact ⟨by omega, by omega, [], Kd.C_of_reads (enc := Value.int .u8) (d := (0 : Int)) ⟨rfl, by omega, fun h => absurd h (by omega)⟩⟩
  · simp [Value.cells] at hcs
    obtain ⟨rfl, rfl, rfl⟩ := hcs
    unfold maxLen at hm
    have hle : len ≤ zs.length := by rw [hz]; split <;> omega
    refine ⟨by omega, hl, zs.take len, Kd.C_of_reads (enc := Value.int .u8) (d := (0 : Int)) ⟨by simp; omega, by omega, fun _ => ⟨ad, rfl, fun j hj => ?_⟩⟩⟩
    rw [hcell j (by omega)]
    simp [List.getD, List.getElem?_take, hj]
theorem splits5 (a : Option Addr) (len cap : Nat) (xs : List Int) (hc : len ≤ cap) (a1 : Int) (W : World) (hP : Q.PartsHeld W) (hC : (Kd.int .u8).C W a len xs) :
    Calls Tryd.prog 5 #[.slice a len cap, .int .i64 a1] W fun e w' => e = .returned (.bool true) ∧ Below W.heap.size W w' := by
  obtain rfl : xs.length = len := hC.1
  obtain ⟨k, h⟩ := splits_pure xs a1
  exact rampartlaw03_WireSplits.calls k a cap xs a1 true W hC hc hP rfl h
end Go.Proofs.YtbbnaagfnpeloaaDoor.Q2
