/- Layer 18, plain: what is told of a script of calls: it may be, numbers rise, each stays in its place. -/
import Derived.Test.YtkkgnmfahhkajaaP3
namespace Go.Proofs.Ytkkgnmfahhkajaa.Q
open Go.RowKit Go.Proofs.YtkkgnmfahhkajaaW.PrintWords Go.Proofs.YtkkgnmfahhkajaaW.PrintMore
set_option linter.unusedVariables false
set_option linter.unusedSimpArgs false
theorem numOk_cons {b last : Int} {o : S42} {t : List S42} : numOk b last (o :: t) = true ↔ leftV o ≠ 0 ∧ last < o.f0 ∧ o.f0 < b ∧ numOk b o.f0 t = true := by
  simp only [numOk, Bool.and_eq_true, decide_eq_true_eq, Bool.not_eq_true', beq_eq_false_iff_ne]
  constructor
  · rintro ⟨⟨⟨h1, h2⟩, h3⟩, h4⟩; exact ⟨h1, h2, h3, h4⟩
  · rintro ⟨h1, h2, h3, h4⟩; exact ⟨⟨⟨h1, h2⟩, h3⟩, h4⟩
theorem numOk_last {b : Int} : ∀ {l : List S42} {last last' : Int}, last' ≤ last → numOk b last l = true → numOk b last' l = true
  | [], _, _, _, _ => rfl
  | o :: t, last, last', h, hn => by
    rw [numOk_cons] at hn ⊢
    exact ⟨hn.1, by omega, hn.2.2⟩
theorem numOk_snoc {b : Int} {o : S42} (ho : leftV o ≠ 0) (hb : o.f0 = b) : ∀ {l : List S42} {last : Int}, last < b → numOk b last l = true → numOk (b + 1) last (l ++ [o]) = true
  | [], last, h, _ => by
    rw [List.nil_append, numOk_cons]
    exact ⟨ho, by omega, by omega, rfl⟩
  | x :: t, last, h, hn => by
    rw [numOk_cons] at hn
    rw [List.cons_append, numOk_cons]
    exact ⟨hn.1, hn.2.1, by omega, numOk_snoc ho hb hn.2.2.1 hn.2.2.2⟩
theorem numOk_cut {b : Int} : ∀ {l : List S42} {last : Int} (k : Nat), numOk b last l = true → numOk b last (l.take k ++ l.drop (k + 1)) = true
  | [], _, k, _ => by simp [numOk]
  | x :: t, last, 0, hn => by
    rw [numOk_cons] at hn
    rw [List.take_zero, List.nil_append, List.drop_succ_cons, List.drop_zero]
    exact numOk_last (by omega) hn.2.2.2
  | x :: t, last, k + 1, hn => by
    rw [numOk_cons] at hn
    rw [List.take_succ_cons, List.drop_succ_cons, List.cons_append, numOk_cons]
    exact ⟨hn.1, hn.2.1, hn.2.2.1, numOk_cut k hn.2.2.2⟩
theorem numOk_set {b : Int} {o : S42} (ho : leftV o ≠ 0) : ∀ {l : List S42} {last : Int} (k : Nat) (hk : k < l.length), l[k].f0 = o.f0 → numOk b last l = true → numOk b last (l.set k o) = true
  | [], _, k, hk, _, _ => absurd hk (Nat.not_lt_zero _)
  | x :: t, last, 0, hk, he, hn => by
    rw [numOk_cons] at hn
    have he' : x.f0 = o.f0 := he
    rw [List.set_cons_zero, numOk_cons, ← he']
    exact ⟨ho, hn.2⟩
  | x :: t, last, k + 1, hk, he, hn => by
    rw [numOk_cons] at hn
    rw [List.set_cons_succ, numOk_cons]
    exact ⟨hn.1, hn.2.1, hn.2.2.1, numOk_set ho k (by simpa using hk) (by simpa using he) hn.2.2.2⟩
theorem numOk_below {b : Int} : ∀ {l : List S42} {last : Int}, numOk b last l = true → ∀ (k : Nat) (hk : k < l.length), last < l[k].f0 ∧ l[k].f0 < b ∧ leftV l[k] ≠ 0
  | [], _, _, k, hk => absurd hk (Nat.not_lt_zero _)
  | x :: t, last, hn, 0, hk => by
    rw [numOk_cons] at hn
    exact ⟨hn.2.1, hn.2.2.1, hn.1⟩
  | x :: t, last, hn, k + 1, hk => by
    rw [numOk_cons] at hn
    have hk' : k < t.length := by simpa using hk
    have h := numOk_below hn.2.2.2 k hk'
    refine ⟨?_, h.2⟩
    have h1 : x.f0 < t[k].f0 := h.1
    show last < t[k].f0
    omega
theorem numOk_place {b : Int} : ∀ {l : List S42} {last : Int}, numOk b last l = true → ∀ (k : Nat) (hk : k < l.length), l.findIdx? (fun o => decide (o.f0 = l[k].f0)) = some k
  | [], _, _, k, hk => absurd hk (Nat.not_lt_zero _)
  | x :: t, last, hn, 0, hk => by
    rw [List.findIdx?_cons]
    simp
  | x :: t, last, hn, k + 1, hk => by
    rw [numOk_cons] at hn
    have hk' : k < t.length := by simpa using hk
    have h1 := (numOk_below hn.2.2.2 k hk').1
    have h2 := numOk_place hn.2.2.2 k hk'
    rw [List.findIdx?_cons]
    have e : (x :: t)[k + 1].f0 = t[k].f0 := rfl
    rw [show decide (x.f0 = (x :: t)[k + 1].f0) = false from decide_eq_false (by rw [e]; omega)]
    show Option.map (fun i => i + 1) (t.findIdx? (fun o => decide (o.f0 = t[k].f0))) = some (k + 1)
    rw [h2]
    rfl
theorem chk_mk {a b : Int} {l : List S42} (h1 : 1 ≤ a) (h2 : a ≤ 4) (h3 : 1 ≤ b) (h4 : b ≤ 1099511627776) (h5 : (l.length : Int) ≤ a) (h6 : numOk b 0 l = true) : chkV a b l = 0 := if_pos ⟨h1, h2, h3, h4, h5, h6⟩
theorem left_new {n : Int} {r : S29} (h : (newV n r).2 = 0) : leftV (newV n r).1 ≠ 0 := by
  unfold newV at h ⊢
  by_cases h0 : n < 1
  · rw [if_pos h0] at h; exact absurd h (by decide)
  · rw [if_neg h0] at h ⊢
    by_cases h1 : isReq r.f0 r.f1 r.f2 r.f3 r.f4 = true
    · rw [if_pos h1]
      unfold leftV
      show (if n < 1 then (0 : Int) else if isReq r.f0 r.f1 r.f2 r.f3 r.f4 = true then (if atV (stepsV r.f0) (rd (stepsV r.f0) 0) < 0 then 0 else wrap64 (((stepsV r.f0).length : Int) - atV (stepsV r.f0) (rd (stepsV r.f0) 0))) else 0) ≠ 0
      rw [if_neg h0, if_pos h1]
      have h2 := steps_some h1
      rcases stepsV_cases r.f0 with e | e | e | e
      · rw [e]; exact of_decide_eq_true (by kernel_rfl)
      · rw [e]; exact of_decide_eq_true (by kernel_rfl)
      · rw [e]; exact of_decide_eq_true (by kernel_rfl)
      · rw [e] at h2; exact absurd h2 (by decide)
    · rw [if_neg h1] at h; exact absurd h (by decide)
theorem new_err {n : Int} {r : S29} : (newV n r).2 = 0 ∨ (newV n r).2 = 1 ∨ (newV n r).2 = 30 := by
  unfold newV
  by_cases h0 : n < 1
  · rw [if_pos h0]; exact .inr (.inl rfl)
  · rw [if_neg h0]
    by_cases h1 : isReq r.f0 r.f1 r.f2 r.f3 r.f4 = true
    · rw [if_pos h1]; exact .inl rfl
    · rw [if_neg h1]; exact .inr (.inr rfl)
/-- What Add tells of one that may be. -/
theorem add_tells {a b : Int} {l : List S42} {r : S29} (h : chkV a b l = 0) :
    ((l.length : Int) = a ∧ addV a b l r = (0, 0, [], 0, 181)) ∨
    ((l.length : Int) ≠ a ∧ ∃ e, e ≠ 0 ∧ e ≠ 181 ∧ addV a b l r = (0, 0, [], 0, e)) ∨
    ((l.length : Int) ≠ a ∧ ∃ o : S42, o.f0 = b ∧ chkV a (b + 1) (l ++ [o]) = 0 ∧ addV a b l r = (a, b + 1, l ++ [o], b, 0)) := by
  obtain ⟨q1, q2, q3, q4, q5, q6⟩ := chk_bounds h
  unfold addV
  rw [if_pos h]
  by_cases h1 : (l.length : Int) = a
  · rw [if_pos h1]; exact .inl ⟨h1, rfl⟩
  · rw [if_neg h1]
    right
    by_cases h2 : b = 1099511627776
    · rw [if_pos h2]; exact .inl ⟨h1, 3, by decide, by decide, rfl⟩
    · rw [if_neg h2]
      by_cases h3 : (newV b r).2 = 0
      · rw [if_pos h3]
        refine .inr ⟨h1, (newV b r).1, new_num h3, ?_, rfl⟩
        refine chk_mk q1 q2 (by omega) (by omega) ?_ (numOk_snoc (left_new h3) (new_num h3) (by omega) q6)
        rw [List.length_append, List.length_singleton]
        omega
      · rw [if_neg h3]
        refine .inl ⟨h1, (newV b r).2, h3, ?_, rfl⟩
        rcases (new_err : (newV b r).2 = 0 ∨ (newV b r).2 = 1 ∨ (newV b r).2 = 30) with e | e | e <;> rw [e] <;> decide
theorem place_k {a b : Int} {l : List S42} (h : chkV a b l = 0) (k : Nat) (hk : k < l.length) : placeF l l[k].f0 = (k : Int) := by
  obtain ⟨q1, q2, q3, q4, q5, q6⟩ := chk_bounds h
  unfold placeF
  rw [numOk_place q6 k hk]
theorem get_tells {a b : Int} {l : List S42} (h : chkV a b l = 0) (k : Nat) (hk : k < l.length) : getV a b l l[k].f0 = (l[k], true) := by
  unfold getV
  rw [if_pos h, place_k h k hk, if_neg (by omega), rd_get hk]
/-- What Set tells of one that may be, and one of its own that goes on. -/
theorem set_tells {a b : Int} {l : List S42} (h : chkV a b l = 0) (k : Nat) (hk : k < l.length) (o : S42) (ho : o.f0 = l[k].f0) :
    (∃ e, e ≠ 0 ∧ setV a b l o = (0, 0, [], e)) ∨
    (o.f2 = 7 ∧ chkV a b (l.take k ++ l.drop (k + 1)) = 0 ∧ setV a b l o = (a, b, l.take k ++ l.drop (k + 1), 0)) ∨
    (o.f2 ≠ 7 ∧ chkV a b (l.set k o) = 0 ∧ setV a b l o = (a, b, l.set k o, 0)) := by
  obtain ⟨q1, q2, q3, q4, q5, q6⟩ := chk_bounds h
  unfold setV
  rw [if_pos h, ho, place_k h k hk, if_neg (by omega), Int.toNat_natCast]
  by_cases h7 : o.f2 = 7
  · rw [if_pos h7]
    refine .inr (.inl ⟨h7, chk_mk q1 q2 q3 q4 ?_ (numOk_cut k q6), rfl⟩)
    simp only [List.length_append, List.length_take, List.length_drop]
    omega
  · rw [if_neg h7]
    by_cases h8 : leftV o = 0
    · rw [if_pos h8]; exact .inl ⟨1, by decide, rfl⟩
    · rw [if_neg h8]
      by_cases h9 : reqEq o.f1 (rd_T42 l (k : Int)).f1 = true
      · rw [if_pos h9]
        refine .inr (.inr ⟨h7, chk_mk q1 q2 q3 q4 ?_ (numOk_set h8 k hk ho.symm q6), rfl⟩)
        rw [List.length_set]
        exact q5
      · rw [if_neg h9]; exact .inl ⟨1, by decide, rfl⟩
theorem map_cut (l : List S42) (k : Nat) : (l.take k ++ l.drop (k + 1)).map (fun o => o.f0) = (l.map (fun o => o.f0)).take k ++ (l.map (fun o => o.f0)).drop (k + 1) := by
  rw [List.map_append, List.map_take, List.map_drop]
theorem map_put (l : List S42) (k : Nat) (hk : k < l.length) (o : S42) (ho : o.f0 = l[k].f0) : (l.set k o).map (fun o => o.f0) = l.map (fun o => o.f0) := by
  apply List.ext_getElem?
  intro j
  simp only [List.getElem?_map, List.getElem?_set]
  by_cases h : k = j
  · subst h
    rw [if_pos rfl, if_pos hk, List.getElem?_eq_getElem hk]
    simp [ho]
  · rw [if_neg h]
end Go.Proofs.Ytkkgnmfahhkajaa.Q
