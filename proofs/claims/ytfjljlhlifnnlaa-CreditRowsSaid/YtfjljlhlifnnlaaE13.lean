/- Layer 13, plain: all accounts, and what a tenant has spent. -/
import Derived.Test.YtfjljlhlifnnlaaQx6
namespace Go.Proofs.Ytfjljlhlifnnlaa.Q
open Go.RowKit Go.Proofs.YtfjljlhlifnnlaaW.PrintWords
set_option linter.unusedVariables false
set_option linter.unusedSimpArgs false
theorem w64_inc {i : Nat} (h : i < 1000000) : wrap64 ((i : Int) + 1) = ((i + 1 : Nat) : Int) := by unfold wrap64; omega
theorem w64_zero : wrap64 ((0 : Int) + 0) = 0 := by unfold wrap64; omega
theorem is_may (a b c : Int) : rampartref13_Is.f a b c = credit_account_may.f a b c := rfl
theorem may_ex (a b c : Int) : ∃ t, credit_account_may.f a b c = some t := by
  unfold credit_account_may.f
  repeat' split
  all_goals exact ⟨_, rfl⟩
theorem check_of {a b c : Int} {t : Bool} (h : credit_account_may.f a b c = some t) : credit_Check.f a b c = some (if t = true then 0 else 131) := by
  unfold credit_Check.f
  rw [h]
  cases t <;> rfl
theorem open_of {a : Int} {t : Bool} (h : credit_account_may.f a 0 0 = some t) : credit_Open.f a = some (if t = true then (a, 0, 0, 0) else (0, 0, 0, 131)) := by
  unfold credit_Open.f
  rw [check_of h]
  cases t <;> rfl
theorem ropen_of {a : Int} {t : Bool} (h : credit_account_may.f a 0 0 = some t) : rampartref13_Open.f a = some (if t = true then (a, 0, 0, 0) else (0, 0, 0, 131)) := by
  unfold rampartref13_Open.f
  rw [is_may, h]
  cases t <;> rfl
/-- A channel's lanes. -/
def lan (l : List S69) (i : Nat) : List S72 := (rd_T69 l (i : Int)).f1
/-- A fresh account. -/
def Ok0 (c : S23) : Prop := c.f1 = 0 ∧ credit_account_may.f c.f0 c.f1 c.f2 = some true
/-- Rows of fresh accounts for the first i channels. -/
def Rows0 (l : List S69) (out : List (List S23)) (i : Nat) : Prop := out.length = i ∧ ∀ j x, out[j]? = some x → x.length = (lan l j).length ∧ ∀ c ∈ x, Ok0 c
theorem rows0_snoc {l : List S69} {out : List (List S23)} {i : Nat} {row : List S23} (h : Rows0 l out i) (hl : row.length = (lan l i).length) (hr : ∀ c ∈ row, Ok0 c) : Rows0 l (out ++ [row]) (i + 1) := by
  refine ⟨by simp [h.1], fun j x hx => ?_⟩
  by_cases hj : j < out.length
  · rw [List.getElem?_append_left hj] at hx
    exact h.2 j x hx
  · rw [List.getElem?_append_right (by omega)] at hx
    have hj0 : j - out.length = 0 := by
      by_cases h0 : j - out.length = 0
      · exact h0
      · rw [List.getElem?_eq_none (by simp; omega)] at hx; cases hx
    rw [hj0] at hx
    simp at hx
    subst hx
    have : j = i := by have := h.1; omega
    subst this
    exact ⟨hl, hr⟩
/-- What the accounts of channels may be. -/
def AccR (l : List S69) (r : List (List S23) × Int) : Prop := (r.2 = 0 ∧ Rows0 l r.1 l.length) ∨ (r.2 ≠ 0 ∧ r.1 = [])
section
variable {l : List S69} (hn : l.length ≤ 12) (hln : ∀ i, i < l.length → (lan l i).length ≤ 12)
include hn hln
theorem acc_l1 {i : Nat} (hi : i < l.length) {out : List (List S23)} (ho : Rows0 l out i)
    (ih : ∀ row : List S23, row.length = (lan l i).length → (∀ c ∈ row, Ok0 c) → ∃ r, Ev (fun k => credit_Accounts.l0 k (out ++ [row]) l ((l.length : Nat) : Int) ((i + 1 : Nat) : Int)) r ∧ Ev (fun k => rampartref13_Accounts.l0 k l (out ++ [row]) ((i + 1 : Nat) : Int)) r ∧ AccR l r) :
    ∀ (d j : Nat), (lan l i).length - j = d → j ≤ (lan l i).length → ∀ row : List S23, row.length = j → (∀ c ∈ row, Ok0 c) →
    ∃ r, Ev (fun k => credit_Accounts.l1 k out row l ((l.length : Nat) : Int) (i : Int) (lan l i) (((lan l i).length : Nat) : Int) (j : Int)) r ∧ Ev (fun k => rampartref13_Accounts.l1 k l out (i : Int) row (j : Int)) r ∧ AccR l r
  | 0, j, hd, hj, row, hr, hok => by
    obtain ⟨r, h1, h2, h3⟩ := ih row (by omega) hok
    have hol := ho.1
    have c1 : (0 : Int) ≤ (i : Int) := by omega
    have c2 : (i : Int) < (l.length : Int) := by omega
    have c3 : ¬ (j : Int) < (((lan l i).length : Nat) : Int) := by omega
    have c4 : out.length < 5864062014805 := by omega
    refine ⟨r, Ev.step (fun k => ?_) h1, Ev.step (fun k => ?_) h2, h3⟩
    · simp only [credit_Accounts.l1]
      rw [if_neg c3, if_pos c4, w64_inc (by omega)]
    · simp only [rampartref13_Accounts.l1]
      have c3' : ¬ (j : Int) < ((((rd_T69 l (i : Int)).f1).length : Nat) : Int) := c3
      rw [if_pos c1, if_pos c2, if_neg c3', if_pos c4, w64_inc (by omega)]
  | d + 1, j, hd, hj, row, hr, hok => by
    have h12 := hln i hi
    have c1 : (0 : Int) ≤ (i : Int) := by omega
    have c2 : (i : Int) < (l.length : Int) := by omega
    have c3 : (j : Int) < (((lan l i).length : Nat) : Int) := by omega
    have c3' : (j : Int) < ((((rd_T69 l (i : Int)).f1).length : Nat) : Int) := c3
    have c5 : (0 : Int) ≤ (j : Int) := by omega
    have c6 : row.length < 5864062014805 := by omega
    obtain ⟨t, ht⟩ := may_ex ((rd_T72 (lan l i) (j : Int)).f1) 0 0
    have e1 := open_of ht
    have e2 : rampartref13_Open.f ((rd_T72 ((rd_T69 l (i : Int)).f1) (j : Int)).f1) = some (if t = true then ((rd_T72 (lan l i) (j : Int)).f1, 0, 0, 0) else (0, 0, 0, 131)) := ropen_of ht
    cases t with
    | true =>
      obtain ⟨r, h1, h2, h3⟩ := acc_l1 hi ho ih d (j + 1) (by omega) (by omega) (row ++ [(⟨(rd_T72 (lan l i) (j : Int)).f1, 0, 0⟩ : S23)]) (by simp [hr]) (fun c hc => by
        rcases List.mem_append.1 hc with hc | hc
        · exact hok c hc
        · rw [List.mem_singleton.1 hc]
          exact ⟨rfl, ht⟩)
      refine ⟨r, Ev.step (fun k => ?_) h1, Ev.step (fun k => ?_) h2, h3⟩
      · simp only [credit_Accounts.l1]
        rw [if_pos c3, if_pos c5, if_pos c3, e1, w64_inc (by omega)]
        simp only [if_true, Option.bind_some, if_pos c6]
      · simp only [rampartref13_Accounts.l1]
        rw [if_pos c1, if_pos c2, if_pos c3', if_pos c5, e2, w64_inc (by omega)]
        simp only [if_true, Option.bind_some, if_pos c6]
    | false =>
      refine ⟨([], 131), Ev.step (f := fun _ => some (([] : List (List S23)), 131)) (fun k => ?_) (Ev.now _), Ev.step (f := fun _ => some (([] : List (List S23)), 131)) (fun k => ?_) (Ev.now _), .inr ⟨by decide, rfl⟩⟩
      · simp only [credit_Accounts.l1]
        rw [if_pos c3, if_pos c5, if_pos c3, e1]
        rfl
      · simp only [rampartref13_Accounts.l1]
        rw [if_pos c1, if_pos c2, if_pos c3', if_pos c5, e2]
        rfl
theorem acc_l0 : ∀ (d i : Nat), l.length - i = d → i ≤ l.length → ∀ out, Rows0 l out i → ∃ r, Ev (fun k => credit_Accounts.l0 k out l ((l.length : Nat) : Int) (i : Int)) r ∧ Ev (fun k => rampartref13_Accounts.l0 k l out (i : Int)) r ∧ AccR l r
  | 0, i, hd, hi, out, ho => by
    obtain rfl : i = l.length := by omega
    refine ⟨(out, 0), Ev.step (f := fun _ => some (out, 0)) (fun k => ?_) (Ev.now _), Ev.step (f := fun _ => some (out, 0)) (fun k => ?_) (Ev.now _), .inl ⟨rfl, ho⟩⟩
    · simp only [credit_Accounts.l0]; rw [if_neg (by omega)]
    · simp only [rampartref13_Accounts.l0]; rw [if_neg (by omega)]
  | d + 1, i, hd, hi, out, ho => by
    have c1 : (0 : Int) ≤ (i : Int) := by omega
    have c2 : (i : Int) < (l.length : Int) := by omega
    obtain ⟨r, h1, h2, h3⟩ := acc_l1 hn hln (i := i) (by omega) ho (fun row hr hok => acc_l0 d (i + 1) (by omega) (by omega) (out ++ [row]) (rows0_snoc ho hr hok)) (lan l i).length 0 (by omega) (by omega) [] rfl (fun c hc => by cases hc)
    refine ⟨r, Ev.step (fun k => ?_) h1, Ev.step (fun k => ?_) h2, h3⟩
    · simp only [credit_Accounts.l0]
      rw [if_pos c2, if_pos c1, if_pos c2]
      rfl
    · simp only [rampartref13_Accounts.l0]
      rw [if_pos c2]
      rfl
theorem acc_both : ∃ r, Ev (fun k => credit_Accounts.f k l) r ∧ Ev (fun k => rampartref13_Accounts.f k l) r ∧ AccR l r :=
  acc_l0 hn hln l.length 0 (by omega) (by omega) [] ⟨rfl, fun j x hx => by simp at hx⟩
variable {a : List (List S23)} (t : Int)
/-- A row's accounts. -/
def acs (a : List (List S23)) (i : Nat) : List S23 := rd_L8 a (i : Int)
theorem held_l2 (ha : a.length = l.length) (hrow : ∀ i, i < l.length → (acs a i).length = (lan l i).length) {i : Nat} (hi : i < l.length)
    (ih : ∀ acc : Int, ∃ r, Ev (fun k => credit_Held.l1 k a t acc l ((l.length : Nat) : Int) ((i + 1 : Nat) : Int)) r ∧ Ev (fun k => rampartref13_Held.l1 k l a t acc ((i + 1 : Nat) : Int)) r) :
    ∀ (d j : Nat), (acs a i).length - j = d → j ≤ (acs a i).length → ∀ acc : Int,
    ∃ r, Ev (fun k => credit_Held.l2 k a t acc l ((l.length : Nat) : Int) (i : Int) (acs a i) (((acs a i).length : Nat) : Int) (j : Int) ((rd_T69 l (i : Int)).f0) (lan l i) ((rd_T69 l (i : Int)).f2)) r ∧ Ev (fun k => rampartref13_Held.l2 k l a t acc (i : Int) (j : Int)) r
  | 0, j, hd, hj, acc => by
    obtain ⟨r, h1, h2⟩ := ih acc
    have c1 : (0 : Int) ≤ (i : Int) := by omega
    have c2 : (i : Int) < (a.length : Int) := by omega
    have c3 : ¬ (j : Int) < (((acs a i).length : Nat) : Int) := by omega
    refine ⟨r, Ev.step (fun k => ?_) h1, Ev.step (fun k => ?_) h2⟩
    · simp only [credit_Held.l2]
      rw [if_neg c3, w64_inc (by omega)]
    · simp only [rampartref13_Held.l2]
      have c3' : ¬ (j : Int) < ((((rd_L8 a (i : Int))).length : Nat) : Int) := c3
      rw [if_pos c1, if_pos c2, if_neg c3', w64_inc (by omega)]
  | d + 1, j, hd, hj, acc => by
    have h12 := hln i hi
    have hr := hrow i hi
    have c1 : (0 : Int) ≤ (i : Int) := by omega
    have c2 : (i : Int) < (a.length : Int) := by omega
    have c2' : (i : Int) < (l.length : Int) := by omega
    have c3 : (j : Int) < (((acs a i).length : Nat) : Int) := by omega
    have c3' : (j : Int) < ((((rd_L8 a (i : Int))).length : Nat) : Int) := c3
    have c4 : (j : Int) < (((lan l i).length : Nat) : Int) := by omega
    have c4' : (j : Int) < ((((rd_T69 l (i : Int)).f1).length : Nat) : Int) := c4
    have c5 : (0 : Int) ≤ (j : Int) := by omega
    obtain ⟨b, hb⟩ := may_ex (rd_T23 (acs a i) (j : Int)).f0 (rd_T23 (acs a i) (j : Int)).f1 (rd_T23 (acs a i) (j : Int)).f2
    have e1 := check_of hb
    have e2 : rampartref13_Is.f (rd_T23 (rd_L8 a (i : Int)) (j : Int)).f0 (rd_T23 (rd_L8 a (i : Int)) (j : Int)).f1 (rd_T23 (rd_L8 a (i : Int)) (j : Int)).f2 = some b := hb
    cases b with
    | true =>
      have hrec := held_l2 ha hrow hi ih d (j + 1) (by omega) (by omega)
      by_cases ht : (rd_T72 (lan l i) (j : Int)).f0 = t
      · have ht' : (rd_T72 ((rd_T69 l (i : Int)).f1) (j : Int)).f0 = t := ht
        obtain ⟨r, h1, h2⟩ := hrec (wrap64 (acc + (rd_T23 (acs a i) (j : Int)).f1))
        refine ⟨r, Ev.step (fun k => ?_) h1, Ev.step (fun k => ?_) h2⟩
        · simp only [credit_Held.l2]
          rw [if_pos c3, if_pos c5, if_pos c3, e1, w64_inc (by omega)]
          simp only [if_true, Option.bind_some, if_pos c4, if_pos ht]
        · simp only [rampartref13_Held.l2]
          rw [if_pos c1, if_pos c2, if_pos c3', if_pos c5, e2, w64_inc (by omega)]
          simp only [if_true, Option.bind_some, if_pos c2', if_pos c4', if_pos ht']
          rfl
      · have ht' : ¬ (rd_T72 ((rd_T69 l (i : Int)).f1) (j : Int)).f0 = t := ht
        obtain ⟨r, h1, h2⟩ := hrec acc
        refine ⟨r, Ev.step (fun k => ?_) h1, Ev.step (fun k => ?_) h2⟩
        · simp only [credit_Held.l2]
          rw [if_pos c3, if_pos c5, if_pos c3, e1, w64_inc (by omega)]
          simp only [if_true, Option.bind_some, if_pos c4, if_neg ht]
        · simp only [rampartref13_Held.l2]
          rw [if_pos c1, if_pos c2, if_pos c3', if_pos c5, e2, w64_inc (by omega)]
          simp only [if_true, Option.bind_some, if_pos c2', if_pos c4', if_neg ht']
    | false =>
      refine ⟨(0, 131), Ev.step (f := fun _ => some ((0, 131) : Int × Int)) (fun k => ?_) (Ev.now _), Ev.step (f := fun _ => some ((0, 131) : Int × Int)) (fun k => ?_) (Ev.now _)⟩
      · simp only [credit_Held.l2]
        rw [if_pos c3, if_pos c5, if_pos c3, e1]
        rfl
      · simp only [rampartref13_Held.l2]
        rw [if_pos c1, if_pos c2, if_pos c3', if_pos c5, e2]
        rfl
theorem held_l1 (ha : a.length = l.length) (hrow : ∀ i, i < l.length → (acs a i).length = (lan l i).length) : ∀ (d i : Nat), l.length - i = d → i ≤ l.length → ∀ acc : Int,
    ∃ r, Ev (fun k => credit_Held.l1 k a t acc l ((l.length : Nat) : Int) (i : Int)) r ∧ Ev (fun k => rampartref13_Held.l1 k l a t acc (i : Int)) r
  | 0, i, hd, hi, acc => by
    refine ⟨(acc, 0), Ev.step (f := fun _ => some (acc, 0)) (fun k => ?_) (Ev.now _), Ev.step (f := fun _ => some (acc, 0)) (fun k => ?_) (Ev.now _)⟩
    · simp only [credit_Held.l1]; rw [if_neg (by omega)]
    · simp only [rampartref13_Held.l1]; rw [if_neg (by omega)]
  | d + 1, i, hd, hi, acc => by
    have c1 : (0 : Int) ≤ (i : Int) := by omega
    have c2 : (i : Int) < (l.length : Int) := by omega
    have c3 : (i : Int) < (a.length : Int) := by omega
    obtain ⟨r, h1, h2⟩ := held_l2 hn hln t ha hrow (i := i) (by omega) (fun acc => held_l1 ha hrow d (i + 1) (by omega) (by omega) acc) (acs a i).length 0 (by omega) (by omega) acc
    refine ⟨r, Ev.step (fun k => ?_) h1, Ev.step (fun k => ?_) h2⟩
    · simp only [credit_Held.l1]
      rw [if_pos c2, if_pos c1, if_pos c2, if_pos c3]
      rfl
    · simp only [rampartref13_Held.l1]
      rw [if_pos c2]
      rfl
theorem held_l0 (ha : a.length = l.length) : ∀ (d i : Nat), l.length - i = d → i ≤ l.length → (∀ j, j < i → (acs a j).length = (lan l j).length) →
    ∃ r, Ev (fun k => credit_Held.l0 k l a t l ((l.length : Nat) : Int) (i : Int)) r ∧ Ev (fun k => rampartref13_Held.l0 k l a t (i : Int)) r
  | 0, i, hd, hi, hrow => by
    obtain ⟨r, h1, h2⟩ := held_l1 hn hln t ha (fun j hj => hrow j (by omega)) l.length 0 (by omega) (by omega) 0
    refine ⟨r, Ev.step (fun k => ?_) h1, Ev.step (fun k => ?_) h2⟩
    · simp only [credit_Held.l0]; rw [if_neg (by omega)]; rfl
    · simp only [rampartref13_Held.l0]; rw [if_neg (by omega)]; rfl
  | d + 1, i, hd, hi, hrow => by
    have c1 : (0 : Int) ≤ (i : Int) := by omega
    have c2 : (i : Int) < (l.length : Int) := by omega
    have c3 : (i : Int) < (a.length : Int) := by omega
    by_cases he : (acs a i).length = (lan l i).length
    · have he' : ((rd_L8 a (i : Int)).length : Int) = (((rd_T69 l (i : Int)).f1).length : Int) := by exact_mod_cast he
      obtain ⟨r, h1, h2⟩ := held_l0 ha d (i + 1) (by omega) (by omega) (fun j hj => by
        by_cases e : j = i
        · rw [e]; exact he
        · exact hrow j (by omega))
      refine ⟨r, Ev.step (fun k => ?_) h1, Ev.step (fun k => ?_) h2⟩
      · simp only [credit_Held.l0]
        rw [if_pos c2, if_pos c1, if_pos c2, if_pos c3, if_pos he', w64_inc (by omega)]
      · simp only [rampartref13_Held.l0]
        rw [if_pos c2, if_pos c1, if_pos c3, if_pos he', w64_inc (by omega)]
    · have he' : ¬ ((rd_L8 a (i : Int)).length : Int) = (((rd_T69 l (i : Int)).f1).length : Int) := fun h => he (by exact_mod_cast h)
      refine ⟨(0, 1), Ev.step (f := fun _ => some ((0, 1) : Int × Int)) (fun k => ?_) (Ev.now _), Ev.step (f := fun _ => some ((0, 1) : Int × Int)) (fun k => ?_) (Ev.now _)⟩
      · simp only [credit_Held.l0]
        rw [if_pos c2, if_pos c1, if_pos c2, if_pos c3, if_neg he']
      · simp only [rampartref13_Held.l0]
        rw [if_pos c2, if_pos c1, if_pos c3, if_neg he']
theorem held_both (a : List (List S23)) : ∃ r, Ev (fun k => credit_Held.f k l a t) r ∧ Ev (fun k => rampartref13_Held.f k l a t) r := by
  unfold credit_Held.f rampartref13_Held.f
  by_cases ha : a.length = l.length
  · have c : (a.length : Int) = (l.length : Int) := by omega
    obtain ⟨r, h1, h2⟩ := held_l0 hn hln t ha l.length 0 (by omega) (by omega) (fun j hj => absurd hj (by omega))
    exact ⟨r, Ev.congr (fun k => if_pos c) h1, Ev.congr (fun k => if_pos c) h2⟩
  · have c : ¬ (a.length : Int) = (l.length : Int) := by omega
    exact ⟨(0, 1), Ev.congr (fun k => if_neg c) (Ev.now _), Ev.congr (fun k => if_neg c) (Ev.now _)⟩
omit hn hln in
theorem acs_at (hg : Rows0 l a l.length) {i : Nat} (hi : i < l.length) : (acs a i).length = (lan l i).length ∧ ∀ j, j < (acs a i).length → Ok0 (rd_T23 (acs a i) (j : Int)) := by
  have hlt : i < a.length := by have := hg.1; omega
  have e : acs a i = a[i] := by
    unfold acs rd_L8
    rw [List.getD_eq_getElem?_getD, Int.toNat_natCast, List.getElem?_eq_getElem hlt]
    rfl
  obtain ⟨h1, h2⟩ := hg.2 i _ (List.getElem?_eq_getElem hlt)
  rw [e]
  refine ⟨h1, fun j hj => h2 _ ?_⟩
  unfold rd_T23
  rw [List.getD_eq_getElem?_getD, Int.toNat_natCast, List.getElem?_eq_getElem hj]
  exact List.getElem_mem hj
theorem zero_l2 (hg : Rows0 l a l.length) {i : Nat} (hi : i < l.length) (ih : Ev (fun k => credit_Held.l1 k a t 0 l ((l.length : Nat) : Int) ((i + 1 : Nat) : Int)) (0, 0)) :
    ∀ (d j : Nat), (acs a i).length - j = d → j ≤ (acs a i).length →
    Ev (fun k => credit_Held.l2 k a t 0 l ((l.length : Nat) : Int) (i : Int) (acs a i) (((acs a i).length : Nat) : Int) (j : Int) ((rd_T69 l (i : Int)).f0) (lan l i) ((rd_T69 l (i : Int)).f2)) (0, 0)
  | 0, j, hd, hj => by
    refine Ev.step (fun k => ?_) ih
    simp only [credit_Held.l2]
    rw [if_neg (by omega), w64_inc (by omega)]
  | d + 1, j, hd, hj => by
    have h12 := hln i hi
    obtain ⟨hr, hok⟩ := acs_at hg hi
    obtain ⟨hz, hm⟩ := hok j (by omega)
    have c3 : (j : Int) < (((acs a i).length : Nat) : Int) := by omega
    have c4 : (j : Int) < (((lan l i).length : Nat) : Int) := by omega
    have c5 : (0 : Int) ≤ (j : Int) := by omega
    have e1 := check_of hm
    have hrec := zero_l2 hg hi ih d (j + 1) (by omega) (by omega)
    refine Ev.step (fun k => ?_) hrec
    simp only [credit_Held.l2]
    rw [if_pos c3, if_pos c5, if_pos c3, e1, w64_inc (by omega), hz]
    simp only [if_true, Option.bind_some, if_pos c4, w64_zero]
    split <;> rfl
theorem zero_l1 (hg : Rows0 l a l.length) : ∀ (d i : Nat), l.length - i = d → i ≤ l.length → Ev (fun k => credit_Held.l1 k a t 0 l ((l.length : Nat) : Int) (i : Int)) (0, 0)
  | 0, i, hd, hi => by
    refine Ev.step (f := fun _ => some ((0, 0) : Int × Int)) (fun k => ?_) (Ev.now _)
    simp only [credit_Held.l1]; rw [if_neg (by omega)]
  | d + 1, i, hd, hi => by
    have hal := hg.1
    have c1 : (0 : Int) ≤ (i : Int) := by omega
    have c2 : (i : Int) < (l.length : Int) := by omega
    have c3 : (i : Int) < (a.length : Int) := by omega
    refine Ev.step (fun k => ?_) (zero_l2 hn hln t hg (i := i) (by omega) (zero_l1 hg d (i + 1) (by omega) (by omega)) (acs a i).length 0 (by omega) (by omega))
    simp only [credit_Held.l1]
    rw [if_pos c2, if_pos c1, if_pos c2, if_pos c3]
    rfl
theorem zero_l0 (hg : Rows0 l a l.length) : ∀ (d i : Nat), l.length - i = d → i ≤ l.length → Ev (fun k => credit_Held.l0 k l a t l ((l.length : Nat) : Int) (i : Int)) (0, 0)
  | 0, i, hd, hi => by
    refine Ev.step (fun k => ?_) (zero_l1 hn hln t hg l.length 0 (by omega) (by omega))
    simp only [credit_Held.l0]; rw [if_neg (by omega)]; rfl
  | d + 1, i, hd, hi => by
    have hal := hg.1
    have c1 : (0 : Int) ≤ (i : Int) := by omega
    have c2 : (i : Int) < (l.length : Int) := by omega
    have c3 : (i : Int) < (a.length : Int) := by omega
    have he := (acs_at hg (i := i) (by omega)).1
    have he' : ((rd_L8 a (i : Int)).length : Int) = (((rd_T69 l (i : Int)).f1).length : Int) := by exact_mod_cast he
    refine Ev.step (fun k => ?_) (zero_l0 hg d (i + 1) (by omega) (by omega))
    simp only [credit_Held.l0]
    rw [if_pos c2, if_pos c1, if_pos c2, if_pos c3, if_pos he', w64_inc (by omega)]
theorem held_zero (hg : Rows0 l a l.length) : Ev (fun k => credit_Held.f k l a t) (0, 0) := by
  unfold credit_Held.f
  have hal := hg.1
  have c : (a.length : Int) = (l.length : Int) := by omega
  exact Ev.congr (fun k => if_pos c) (zero_l0 hn hln t hg l.length 0 (by omega) (by omega))
end
/-! ### Rows are the same as themselves -/
theorem samer_l1 {a : List (List S23)} (ha : a.length ≤ 12) {i : Nat} (hi : i < a.length) (hr : (acs a i).length ≤ 12) (ih : Ev (fun k => rampartref13_SameRows.l0 k a a ((i + 1 : Nat) : Int)) true) : ∀ (d j : Nat), (acs a i).length - j = d → j ≤ (acs a i).length → Ev (fun k => rampartref13_SameRows.l1 k a a (i : Int) (j : Int)) true
  | 0, j, hd, hj => by
    have c1 : (0 : Int) ≤ (i : Int) := by omega
    have c2 : (i : Int) < (a.length : Int) := by omega
    have c3 : ¬ (j : Int) < ((((rd_L8 a (i : Int))).length : Nat) : Int) := by show ¬ (j : Int) < (((acs a i).length : Nat) : Int); omega
    refine Ev.step (fun k => ?_) ih
    simp only [rampartref13_SameRows.l1]
    rw [if_pos c1, if_pos c2, if_neg c3, w64_inc (by omega)]
  | d + 1, j, hd, hj => by
    have c1 : (0 : Int) ≤ (i : Int) := by omega
    have c2 : (i : Int) < (a.length : Int) := by omega
    have c3 : (j : Int) < ((((rd_L8 a (i : Int))).length : Nat) : Int) := by show (j : Int) < (((acs a i).length : Nat) : Int); omega
    have c5 : (0 : Int) ≤ (j : Int) := by omega
    refine Ev.step (fun k => ?_) (samer_l1 ha hi hr ih d (j + 1) (by omega) (by omega))
    simp only [rampartref13_SameRows.l1]
    rw [if_pos c1, if_pos c2, if_pos c3, if_pos c5, if_pos c2, if_pos c3, w64_inc (by omega)]
    simp
theorem samer_l0 {a : List (List S23)} (ha : a.length ≤ 12) (hr : ∀ i, i < a.length → (acs a i).length ≤ 12) : ∀ (d i : Nat), a.length - i = d → i ≤ a.length → Ev (fun k => rampartref13_SameRows.l0 k a a (i : Int)) true
  | 0, i, hd, hi => by
    refine Ev.step (f := fun _ => some true) (fun k => ?_) (Ev.now _)
    simp only [rampartref13_SameRows.l0]; rw [if_neg (by omega)]
  | d + 1, i, hd, hi => by
    have c1 : (0 : Int) ≤ (i : Int) := by omega
    have c2 : (i : Int) < (a.length : Int) := by omega
    refine Ev.step (fun k => ?_) (samer_l1 ha (i := i) (by omega) (hr i (by omega)) (samer_l0 ha hr d (i + 1) (by omega) (by omega)) (acs a i).length 0 (by omega) (by omega))
    simp only [rampartref13_SameRows.l0]
    rw [if_pos c2, if_pos c1, if_pos c2, if_pos trivial]
    rfl
theorem samer_ev {a : List (List S23)} (ha : a.length ≤ 12) (hr : ∀ i, i < a.length → (acs a i).length ≤ 12) : Ev (fun k => rampartref13_SameRows.f k a a) true := by
  unfold rampartref13_SameRows.f
  exact Ev.congr (fun k => if_pos rfl) (samer_l0 ha hr a.length 0 (by omega) (by omega))
/-! ### What is looked at -/
theorem cut_l0 (l : List S69) : ∀ (d i : Nat), 12 - i = d → i ≤ 12 → ∀ out : List S69, out.length = i → (∀ y ∈ out, y.f1.length ≤ 12) → ∃ ys, Ev (fun k => rampartlaw13_cut.l0 k l out (i : Int)) ys ∧ ys.length ≤ 12 ∧ ∀ y ∈ ys, y.f1.length ≤ 12
  | 0, i, hd, hi, out, ho, hok => by
    refine ⟨out, Ev.step (f := fun _ => some out) (fun k => ?_) (Ev.now _), by omega, hok⟩
    simp only [rampartlaw13_cut.l0]
    split
    · rw [if_neg (by omega)]
    · rfl
  | d + 1, i, hd, hi, out, ho, hok => by
    by_cases c1 : (i : Int) < (l.length : Int)
    · have c2 : (i : Int) < 12 := by omega
      have c3 : (0 : Int) ≤ (i : Int) := by omega
      have c4 : out.length < 2513169434916 := by omega
      by_cases c5 : (((rd_T69 l (i : Int)).f1).length : Int) > 12
      · obtain ⟨ys, h1, h2⟩ := cut_l0 l d (i + 1) (by omega) (by omega) (out ++ [(⟨(rd_T69 l (i : Int)).f0, (((rd_T69 l (i : Int)).f1).take 12), (rd_T69 l (i : Int)).f2⟩ : S69)]) (by simp [ho]) (fun y hy => by
          rcases List.mem_append.1 hy with hy | hy
          · exact hok y hy
          · rw [List.mem_singleton.1 hy]
            show (((rd_T69 l (i : Int)).f1).take 12).length ≤ 12
            rw [List.length_take]; omega)
        refine ⟨ys, Ev.step (fun k => ?_) h1, h2⟩
        simp only [rampartlaw13_cut.l0]
        rw [if_pos c1, if_pos c2, if_pos c3, if_pos c5, if_pos (by omega), if_pos c4, w64_inc (by omega)]
      · obtain ⟨ys, h1, h2⟩ := cut_l0 l d (i + 1) (by omega) (by omega) (out ++ [(⟨(rd_T69 l (i : Int)).f0, (rd_T69 l (i : Int)).f1, (rd_T69 l (i : Int)).f2⟩ : S69)]) (by simp [ho]) (fun y hy => by
          rcases List.mem_append.1 hy with hy | hy
          · exact hok y hy
          · rw [List.mem_singleton.1 hy]
            show ((rd_T69 l (i : Int)).f1).length ≤ 12
            omega)
        refine ⟨ys, Ev.step (fun k => ?_) h1, h2⟩
        simp only [rampartlaw13_cut.l0]
        rw [if_pos c1, if_pos c2, if_pos c3, if_neg c5, if_pos c4, w64_inc (by omega)]
    · refine ⟨out, Ev.step (f := fun _ => some out) (fun k => ?_) (Ev.now _), by omega, hok⟩
      simp only [rampartlaw13_cut.l0]
      rw [if_neg c1]
theorem cut_ev (l : List S69) : ∃ ys, Ev (fun k => rampartlaw13_cut.f k l) ys ∧ ys.length ≤ 12 ∧ ∀ i, i < ys.length → (lan ys i).length ≤ 12 := by
  obtain ⟨ys, h1, h2, h3⟩ := cut_l0 l 12 0 (by omega) (by omega) [] rfl (fun y hy => by cases hy)
  refine ⟨ys, h1, h2, fun i hi => ?_⟩
  have e : rd_T69 ys (i : Int) = ys[i] := by
    unfold rd_T69
    rw [List.getD_eq_getElem?_getD, Int.toNat_natCast, List.getElem?_eq_getElem hi]
    rfl
  unfold lan
  rw [e]
  exact h3 _ (List.getElem_mem hi)
theorem rows_body {ys : List S69} (hn : ys.length ≤ 12) (hln : ∀ i, i < ys.length → (lan ys i).length ≤ 12) (a : List (List S23)) (t : Int) :
    Ev (fun k => (credit_Accounts.f k ys).bind fun bt194 => ((rampartref13_Accounts.f k ys).bind fun bt198 => ((credit_Held.f k ys a t).bind fun bt202 => ((rampartref13_Held.f k ys a t).bind fun bt204 => ((credit_Held.f k ys bt194.1 t).bind fun bt206 => ((rampartref13_SameRows.f k bt194.1 bt198.1).bind fun t208 => (if t208 = true then (if bt194.2 = bt198.2 then (if bt202.1 = bt204.1 then (if bt202.2 = bt204.2 then (if bt194.2 = 0 then (if bt206.1 = 0 then (if bt206.2 = 0 then ((rampartlaw13_alive.f).bind fun t209 => (some t209)) else (some false)) else (some false)) else ((rampartlaw13_alive.f).bind fun t210 => (some t210))) else (some false)) else (some false)) else (some false)) else (some false)))))))) true := by
  obtain ⟨r, h1, h2, h3⟩ := acc_both hn hln
  obtain ⟨h, h4, h5⟩ := held_both hn hln t a
  obtain ⟨g, h6, _⟩ := held_both hn hln t r.1
  have hsame : Ev (fun k => rampartref13_SameRows.f k r.1 r.1) true := by
    rcases h3 with ⟨_, hg⟩ | ⟨_, hg⟩
    · have hl := hg.1
      exact samer_ev (by omega) (fun i hi => by have h_ := (acs_at hg (i := i) (by omega)).1; have := hln i (by omega); omega)
    · rw [hg]
      exact samer_ev (by simp) (fun i hi => absurd hi (by simp))
  refine Ev.bind h1 (Ev.bind h2 (Ev.bind h4 (Ev.bind h5 ?_)))
  rcases h3 with ⟨he, hg⟩ | ⟨he, hg⟩
  · refine Ev.bind (held_zero hn hln t hg) (Ev.bind hsame ?_)
    simp only [if_true, he]
    exact Ev.now _
  · refine Ev.bind h6 (Ev.bind hsame ?_)
    simp only [if_true, if_neg he]
    exact Ev.now _
theorem rows_ev (l0 : List S69) (l1 : List (List S23)) (t : Int) : Ev (fun k => rampartlaw13_CreditRows.f k l0 l1 t) true := by
  obtain ⟨ys, h, hn, hln⟩ := cut_ev l0
  unfold rampartlaw13_CreditRows.f
  refine Ev.bind h ?_
  by_cases c : (l1.length : Int) > 24
  · refine Ev.congr (fun k => (if_pos c).trans (if_pos (by omega))) ?_
    simp only [Option.bind_some]
    exact rows_body hn hln _ t
  · exact Ev.congr (fun k => if_neg c) (rows_body hn hln l1 t)
end Go.Proofs.Ytfjljlhlifnnlaa.Q
