/- Layer 1, plain: the laws over a set's numbers and back. -/
import Derived.Test.YtbbmibabjffcaaaP2
namespace Go.Proofs.Ytbbmibabjffcaaa.Q
open Go.RowKit Go.Proofs.YtbbmibabjffcaaaW.PrintWords Go.Proofs.YtbbmibabjffcaaaW.PrintMore Go.Proofs.YtbbmibabjffcaaaW.PrintLast Go.Proofs.Ytbbmibabjffcaaa.Bm
set_option linter.unusedVariables false
set_option linter.unusedSimpArgs false
theorem alive_ev : Ev (fun k => rampartlaw01_alive.f k) true := Ev.of rampartlaw01_alive.mono (k := 20) (by decide +kernel)
theorem alive_last {α : Type} {b : Bool} (hb : b = true) : Ev (fun k => (rampartlaw01_alive.f k).bind fun t => some t) b := by subst hb; exact Ev.bind alive_ev (Ev.now _)
theorem u_nat {a : Int} (h : (Lit.int .u64 a).wf = true) : ∃ s : Nat, a = (s : Int) ∧ s < 2 ^ 64 := by
  have h1 : 0 ≤ a ∧ a ≤ 18446744073709551615 := by simpa [Lit.wf, IntKind.bits, IntKind.signed, IntKind.wrap, IntKind.min, IntKind.max] using h
  obtain ⟨s, rfl⟩ := Int.eq_ofNat_of_zero_le h1.1
  exact ⟨s, rfl, by omega⟩
theorem i_rng {a : Int} (h : (Lit.int .i64 a).wf = true) : -9223372036854775808 ≤ a ∧ a < 9223372036854775808 := by
  have h1 : -9223372036854775808 ≤ a ∧ a ≤ 9223372036854775807 := by simpa [Lit.wf, IntKind.bits, IntKind.signed, IntKind.wrap, IntKind.min, IntKind.max] using h
  omega
theorem uOk_at {s : Nat} (hs : s < 2 ^ 64) : uOk (s : Int) = true := by unfold uOk; simp; omega
theorem numbers_ev {s : Nat} (hs : s < 2 ^ 64) {a1 a2 : Int} (h2 : -9223372036854775808 ≤ a2 ∧ a2 < 9223372036854775808) : Ev (fun k => rampartlaw01_BitsNumbers.f k (s : Int) a1 a2) true := by
  have hu := uOk_at hs
  unfold rampartlaw01_BitsNumbers.f bits_Nth.f bits_Size.f bits_Rank.f
  simp only [if_pos hu, if_pos h2, Option.bind_some, Int.toNat_natCast]
  refine Ev.bind (nth_ev hs a2) (Ev.bind (list_ev hs) ?_)
  rw [vals_len]
  simp only [if_pos trivial]
  refine Ev.bind (rank_ev hs a1) ?_
  simp only [if_pos trivial, beq_self_eq_true]
  exact Ev.bind alive_ev (Ev.now _)
theorem rank_at {s : Nat} {q : List (Fin 64)} {x : Fin 64} {t : List (Fin 64)} (h : pfx s 64 = q ++ x :: t) : ((pfx s 64).filter fun y => decide (((y.val : Nat) : Int) < ((x.val : Nat) : Int))).length = q.length := by
  have hb : s.testBit x.val = true := ((pfx_mem 64 x).1 (by rw [h]; simp)).2
  have hr := rank_more (s := s) (i := x.val) (a := ((x.val : Nat) : Int)) (by omega) (.inr (by omega)) (64 - x.val) (by omega)
  rw [show x.val + (64 - x.val) = 64 by omega] at hr
  rw [hr]
  have h1 := pfx_to s (k := x.val + 1) (by omega)
  rw [pfx_yes x.2 hb] at h1
  have hnd : ((pfx s 64).map fun y => y.val).Nodup := by
    rw [pfx_val s 64 (by omega)]
    exact List.nodup_range.sublist List.filter_sublist
  obtain ⟨u, hu⟩ := h1
  rw [h, List.append_assoc, List.singleton_append] at hu
  rw [h] at hnd
  clear hr h hb
  generalize pfx s x.val = p at *
  clear s
  induction p generalizing q with
  | nil =>
    cases q with
    | nil => rfl
    | cons y q =>
      simp only [List.nil_append, List.cons_append, List.cons.injEq] at hu
      obtain ⟨rfl, rfl⟩ := hu
      simp at hnd
  | cons z p ih =>
    cases q with
    | nil =>
      simp only [List.nil_append, List.cons_append, List.cons.injEq] at hu
      obtain ⟨rfl, rfl⟩ := hu
      simp at hnd
    | cons y q =>
      simp only [List.cons_append, List.cons.injEq] at hu
      obtain ⟨rfl, hu⟩ := hu
      rw [List.cons_append, List.map_cons, List.nodup_cons] at hnd
      simp only [List.length_cons]
      rw [ih hnd.2 hu]
theorem one_ev {i : Nat} (hi : i < 64) : bits_one.f (i : Int) = some ((2 ^ i : Nat) : Int) := by
  unfold bits_one.f
  rw [wu64 (by omega) (by omega), if_pos (by omega)]
  unfold shl
  rw [Int.one_mul, Nat.min_eq_left (by simp [IntKind.bits]; omega), Int.toNat_natCast, wrap_pow hi]
theorem has_bits {s i : Nat} (hs : s < 2 ^ 64) (hi : i < 64) : bits_Has.f (s : Int) (i : Int) = some (s.testBit i) := by
  unfold bits_Has.f
  rw [if_pos (by omega), if_pos (by omega), one_ev hi, Option.bind_some, and_pow s i hs hi]
  have := pow_ne i
  cases s.testBit i
  · rfl
  · simpa using this
/-- A set of these members. -/
def setOf (l : List (Fin 64)) : Nat := l.foldl (fun a x => a ||| 2 ^ x.val) 0
theorem setOf_snoc (l : List (Fin 64)) (x : Fin 64) : setOf (l ++ [x]) = setOf l ||| 2 ^ x.val := by simp [setOf, List.foldl_append]
theorem setOf_pfx (s : Nat) : ∀ k, k ≤ 64 → setOf (pfx s k) = ofP (fun i => s.testBit i) k
  | 0, _ => rfl
  | k + 1, h => by
    have ih := setOf_pfx s k (by omega)
    have hl := ofP_lt (fun i => s.testBit i) k
    cases hb : s.testBit k
    · rw [pfx_no hb, ih]; simp [ofP, hb]
    · rw [pfx_yes (by omega) hb, setOf_snoc, ih]
      simp only [ofP, hb, if_true]
      exact (add_two_pow_or hl).symm
theorem setOf_all {s : Nat} (hs : s < 2 ^ 64) : setOf (pfx s 64) = s := by
  rw [setOf_pfx s 64 (by omega)]
  exact bits_eq 64 (ofP_lt _ _) hs fun i hi => by rw [testBit_ofP]; simp [hi]
theorem setOf_lt (l : List (Fin 64)) : setOf l < 2 ^ 64 := by
  unfold setOf
  have : ∀ (l : List (Fin 64)) (a : Nat), a < 2 ^ 64 → l.foldl (fun a x => a ||| 2 ^ x.val) a < 2 ^ 64 := by
    intro l
    induction l with
    | nil => exact fun a h => h
    | cons x t ih => exact fun a h => ih _ (or_lt64 h x.2)
  exact this l 0 (by decide)
theorem of_l0 (l : List (Fin 64)) (h17 : l.length < 1000000) : ∀ (t q : List (Fin 64)), l = q ++ t → Ev (fun k => bits_Of.l0 k ((setOf q : Nat) : Int) (vals l) ((l.length : Nat) : Int) ((q.length : Nat) : Int)) (((setOf l : Nat) : Int), 0)
  | [], q, h => by
    rw [List.append_nil] at h
    subst h
    refine Ev.step (f := fun _ => some (((setOf l : Nat) : Int), 0)) (fun k => ?_) (Ev.now _)
    simp only [bits_Of.l0]
    rw [if_neg (by omega)]
  | x :: t, q, h => by
    have ih := of_l0 l h17 t (q ++ [x]) (by simp [h])
    refine Ev.step (fun k => ?_) ih
    simp only [bits_Of.l0]
    have hlen : l.length = q.length + (t.length + 1) := by rw [h]; simp
    have hv := vals_len l
    have hr : rd (vals l) ((q.length : Nat) : Int) = ((x.val : Nat) : Int) := by
      rw [rd_vals (by omega)]
      simp [h]
    have hx := x.2
    have f1 : ¬ ((x.val : Nat) : Int) < 0 := by omega
    have f2 : ¬ ((x.val : Nat) : Int) ≥ 64 := by omega
    rw [if_pos (by omega), if_pos (by omega), if_pos (by omega), hr, if_neg f1, if_neg f2, one_ev hx, Option.bind_some, or_u64 (setOf_lt _) (Nat.pow_lt_pow_right (by decide) hx), w64_inc (by omega), setOf_snoc, List.length_append, List.length_singleton]
theorem of_ev {s : Nat} (hs : s < 2 ^ 64) : Ev (fun k => bits_Of.f k (vals (pfx s 64))) ((s : Int), 0) := by
  have h := of_l0 (pfx s 64) (by have := pfx_length s 64; omega) (pfx s 64) [] (List.nil_append _).symm
  rw [setOf_all hs] at h
  unfold bits_Of.f
  rw [vals_len]
  rw [List.length_nil] at h
  exact h
theorem nthR_at {l q t : List (Fin 64)} {x : Fin 64} (h : l = q ++ x :: t) : nthR l ((q.length : Nat) : Int) = (((x.val : Nat) : Int), true) := nthR_hit (q := q) ⟨t, by simp [h]⟩ rfl
theorem back_end {s : Nat} (hs : s < 2 ^ 64) {l : List (Fin 64)} (hl : pfx s 64 = l) : Ev (fun k => rampartlaw01_BitsBack.l0 k (s : Int) (vals l) ((l.length : Nat) : Int)) true := by
  have hu := uOk_at hs
  have ho := of_ev hs
  rw [hl] at ho
  refine Ev.step (f := fun k => (bits_Of.f k (vals l)).bind fun bt194 => (if bt194.2 = 0 then (if bt194.1 = (s : Int) then ((rampartlaw01_alive.f k).bind fun t197 => (some t197)) else (some false)) else (some false))) (fun k => ?_) ?_
  · simp only [rampartlaw01_BitsBack.l0]
    rw [if_neg (by rw [vals_len]; omega)]
    unfold bits_Size.f
    simp only [if_pos hu, Option.bind_some, Int.toNat_natCast, vals_len, hl, if_pos trivial]
  · refine Ev.bind ho ?_
    simp only [if_pos trivial]
    exact Ev.bind alive_ev (Ev.now _)
theorem back_step {s : Nat} (hs : s < 2 ^ 64) {l : List (Fin 64)} (hl : pfx s 64 = l) (t q : List (Fin 64)) (x : Fin 64) (h : l = q ++ x :: t) (k : Nat) :
    rampartlaw01_BitsBack.l0 (k + 1) (s : Int) (vals l) ((q.length : Nat) : Int) = rampartlaw01_BitsBack.l0 k (s : Int) (vals l) (((q ++ [x]).length : Nat) : Int) := by
  have hu := uOk_at hs
  have hp64 := pfx_length s 64
  rw [hl] at hp64
  have hlen : l.length = q.length + (t.length + 1) := by rw [h]; simp
  have hv := vals_len l
  have hr : rd (vals l) ((q.length : Nat) : Int) = ((x.val : Nat) : Int) := by
    rw [rd_vals (by omega)]
    simp [h]
  have hb : s.testBit x.val = true := ((pfx_mem 64 x).1 (by rw [hl, h]; simp)).2
  have hx := x.2
  have hk := rank_at (hl.trans h)
  rw [hl] at hk
  simp only [rampartlaw01_BitsBack.l0]
  rw [if_pos (by omega), if_pos (by omega), hr]
  unfold bits_Rank.f bits_Nth.f
  rw [if_pos hu, Int.toNat_natCast, hl, hk, Option.bind_some, if_pos hu]
  have hc : -9223372036854775808 ≤ ((q.length : Nat) : Int) ∧ ((q.length : Nat) : Int) < 9223372036854775808 := by omega
  have hw : wrap64 (((q.length : Nat) : Int) + 1) = (((q ++ [x]).length : Nat) : Int) := by rw [w64_inc (by omega), List.length_append, List.length_singleton]
  rw [if_pos hc, Option.bind_some, nthR_at h, if_pos rfl, if_pos rfl, has_bits hs hx, hb, Option.bind_some, if_pos rfl, hw]
theorem back_l0 {s : Nat} (hs : s < 2 ^ 64) {l : List (Fin 64)} (hl : pfx s 64 = l) (t : List (Fin 64)) : ∀ q, l = q ++ t → Ev (fun k => rampartlaw01_BitsBack.l0 k (s : Int) (vals l) ((q.length : Nat) : Int)) true := by
  induction t with
  | nil =>
    intro q h
    rw [List.append_nil] at h
    subst h
    exact back_end hs hl
  | cons x t ih => exact fun q h => Ev.step (fun k => back_step hs hl t q x h k) (ih (q ++ [x]) (by rw [h, List.append_assoc]; rfl))
theorem back_ev {s : Nat} (hs : s < 2 ^ 64) : Ev (fun k => rampartlaw01_BitsBack.f k (s : Int)) true := by
  unfold rampartlaw01_BitsBack.f bits_List.f
  simp only [if_pos (uOk_at hs), Option.bind_some, Int.toNat_natCast]
  generalize hl : pfx s 64 = l
  have h := back_l0 hs hl l [] (List.nil_append _).symm
  rw [List.length_nil] at h
  exact h
end Go.Proofs.Ytbbmibabjffcaaa.Q
