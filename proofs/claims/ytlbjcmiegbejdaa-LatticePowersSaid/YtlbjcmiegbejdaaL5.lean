/- Layer 2: joins and meets of two labels, in the printed form. -/
import Derived.Test.YtlbjcmiegbejdaaL4
import Derived.Test.YtlbjcmiegbejdaaQx5
import Derived.Test.YtlbjcmiegbejdaaQx7
namespace Go.Proofs.Ytlbjcmiegbejdaa.Q
open Go.RowKit Go.Shelf Bm
attribute [local go_sem] Oper.semAt_some
set_option linter.unusedVariables false
set_option linter.unusedSimpArgs false
open Go.Proofs.YtlbjcmiegbejdaaW.PrintWords Go.Proofs.YtlbjcmiegbejdaaW.PrintMore Go.Proofs.YtlbjcmiegbejdaaW.PrintLast
/-! ### two labels that are asked about -/
def askE (l : List Int) (a b e : Int) : Int := if e = 0 then (if a < 0 ∨ b < 0 ∨ (l.length : Int) ≤ a ∨ (l.length : Int) ≤ b then 5 else 0) else e
def askV (A : Option Addr) (l : List Int) (c : Nat) (x : Int) : Value := if x = 0 then .slice A l.length c else .slice none 0 0
set_option maxRecDepth 100000 in
set_option maxHeartbeats 4000000 in
theorem asked_ok (A : Option Addr) (c : Nat) (l : List Int) (a b e : Int) (w : World) (hr : Kd.C (Kd.int .u64) w A l.length l) (hc : l.length ≤ c) (ht : lattice_Check.f l = some e) :
    Calls Try.prog 60 #[.slice A l.length c, .int .i64 a, .int .i64 b] w fun e_ w' => e_ = .returned (.tuple #[askV A l c (askE l a b e), .int .i64 (askE l a b e)]) ∧ Below w.heap.size w w' := by
  refine (callsIn_wide (n := 9)).1 ?_
  have f16 : Fence.wide.fn 16 := trivial
  by_cases he : e = 0
  · have hne : (e != 0) = false := by rw [he]; rfl
    by_cases h : a < 0 ∨ b < 0 ∨ (l.length : Int) ≤ a ∨ (l.length : Int) ≤ b
    · have hx : askE l a b e = 5 := by unfold askE; rw [if_pos he, if_pos h]
      have hv : askV A l c (5 : Int) = .slice none 0 0 := rfl
      rw [hx, hv]
      by_cases d1 : a < 0
      · have d1b := decide_eq_true d1
        clear h hx hv d1
        refine callsIn_of_wp_marks Try.func60 rfl trivial ?_ rfl
        simp only [Try.ntmps60, List.size_toArray, List.length_cons, List.length_nil, Nat.reduceAdd, Nat.reduceSub, Array.replicate_succ, Array.replicate_zero, List.push_toArray, List.append_toArray, List.nil_append, List.cons_append]
        gi_wp2_with (gi_at_call 16; refine ((callsIn_wide (n := 8)).2 (lattice_Check.calls A c l e _ hr hc ht)).mono ?_; rintro e w1 ⟨rfl, hb1⟩)
        exact ⟨_, results_tmp2 rfl _ _ _, rfl, hb1⟩
      · have d1b := decide_eq_false d1
        by_cases d2 : b < 0
        · have d2b := decide_eq_true d2
          clear h hx hv d1 d2
          refine callsIn_of_wp_marks Try.func60 rfl trivial ?_ rfl
          simp only [Try.ntmps60, List.size_toArray, List.length_cons, List.length_nil, Nat.reduceAdd, Nat.reduceSub, Array.replicate_succ, Array.replicate_zero, List.push_toArray, List.append_toArray, List.nil_append, List.cons_append]
          gi_wp2_with (gi_at_call 16; refine ((callsIn_wide (n := 8)).2 (lattice_Check.calls A c l e _ hr hc ht)).mono ?_; rintro e w1 ⟨rfl, hb1⟩)
          exact ⟨_, results_tmp2 rfl _ _ _, rfl, hb1⟩
        · have d2b := decide_eq_false d2
          by_cases d3 : (l.length : Int) ≤ a
          · have d3b := decide_eq_true d3
            clear h hx hv d1 d2 d3
            refine callsIn_of_wp_marks Try.func60 rfl trivial ?_ rfl
            simp only [Try.ntmps60, List.size_toArray, List.length_cons, List.length_nil, Nat.reduceAdd, Nat.reduceSub, Array.replicate_succ, Array.replicate_zero, List.push_toArray, List.append_toArray, List.nil_append, List.cons_append]
            gi_wp2_with (gi_at_call 16; refine ((callsIn_wide (n := 8)).2 (lattice_Check.calls A c l e _ hr hc ht)).mono ?_; rintro e w1 ⟨rfl, hb1⟩)
            exact ⟨_, results_tmp2 rfl _ _ _, rfl, hb1⟩
          · have d3b := decide_eq_false d3
            have d4 : (l.length : Int) ≤ b := by omega
            have d4b := decide_eq_true d4
            clear h hx hv d1 d2 d3 d4
            refine callsIn_of_wp_marks Try.func60 rfl trivial ?_ rfl
            simp only [Try.ntmps60, List.size_toArray, List.length_cons, List.length_nil, Nat.reduceAdd, Nat.reduceSub, Array.replicate_succ, Array.replicate_zero, List.push_toArray, List.append_toArray, List.nil_append, List.cons_append]
            gi_wp2_with (gi_at_call 16; refine ((callsIn_wide (n := 8)).2 (lattice_Check.calls A c l e _ hr hc ht)).mono ?_; rintro e w1 ⟨rfl, hb1⟩)
            exact ⟨_, results_tmp2 rfl _ _ _, rfl, hb1⟩
    · have hx : askE l a b e = 0 := by unfold askE; rw [if_pos he, if_neg h]
      have hv : askV A l c (0 : Int) = .slice A l.length c := rfl
      rw [hx, hv]
      have d1 : decide (a < 0) = false := decide_eq_false (fun h_ => h (by omega))
      have d2 : decide (b < 0) = false := decide_eq_false (fun h_ => h (by omega))
      have d3 : decide ((l.length : Int) ≤ a) = false := decide_eq_false (fun h_ => h (by omega))
      have d4 : decide ((l.length : Int) ≤ b) = false := decide_eq_false (fun h_ => h (by omega))
      clear h hx hv
      refine callsIn_of_wp_marks Try.func60 rfl trivial ?_ rfl
      simp only [Try.ntmps60, List.size_toArray, List.length_cons, List.length_nil, Nat.reduceAdd, Nat.reduceSub, Array.replicate_succ, Array.replicate_zero, List.push_toArray, List.append_toArray, List.nil_append, List.cons_append]
      gi_wp2_with (gi_at_call 16; refine ((callsIn_wide (n := 8)).2 (lattice_Check.calls A c l e _ hr hc ht)).mono ?_; rintro e w1 ⟨rfl, hb1⟩)
      exact ⟨_, results_tmp2 rfl _ _ _, rfl, hb1⟩
  · have hne : (e != 0) = true := bne_iff_ne.2 he
    have hx : askE l a b e = e := by unfold askE; rw [if_neg he]
    have hv : askV A l c e = .slice none 0 0 := by unfold askV; rw [if_neg he]
    rw [hx, hv]
    clear hx hv
    refine callsIn_of_wp_marks Try.func60 rfl trivial ?_ rfl
    simp only [Try.ntmps60, List.size_toArray, List.length_cons, List.length_nil, Nat.reduceAdd, Nat.reduceSub, Array.replicate_succ, Array.replicate_zero, List.push_toArray, List.append_toArray, List.nil_append, List.cons_append]
    gi_wp2_with (gi_at_call 16; refine ((callsIn_wide (n := 8)).2 (lattice_Check.calls A c l e _ hr hc ht)).mono ?_; rintro e w1 ⟨rfl, hb1⟩)
    exact ⟨_, results_tmp2 rfl _ _ _, rfl, hb1⟩
/-! ### what a way tells of two labels -/
def bndV (x j : Int) : Int := if x = 0 then j else 0
set_option maxRecDepth 100000 in
set_option maxHeartbeats 4000000 in
theorem bound_52 (A : Option Addr) (c : Nat) (l : List Int) (a b e j : Int) (w : World) (hr : Kd.C (Kd.int .u64) w A l.length l) (hc : l.length ≤ c) (ht : lattice_Check.f l = some e)
    (hway : askE l a b e = 0 → ∀ w', Below w.heap.size w w' → Calls Try.prog 52 #[.slice A l.length c, .int .i64 a, .int .i64 b] w' fun e W => e = .returned (.int .u64 j) ∧ Below w'.heap.size w' W) :
    Calls Try.prog 51 #[.slice A l.length c, .int .i64 a, .int .i64 b, .func (.func 52) #[] #[]] w fun e_ w' => e_ = .returned (.tuple #[.int .u64 (bndV (askE l a b e) j), .int .i64 (askE l a b e)]) ∧ Below w.heap.size w w' := by
  refine (callsIn_wide (n := 9)).1 ?_
  have f60 : Fence.wide.fn 60 := trivial
  have fk : Fence.wide.fn 52 := trivial
  have ha := fun W hrW => (callsIn_wide (n := 8)).2 (asked_ok A c l a b e W hrW hc ht)
  generalize hx : askE l a b e = x at ha hway ⊢
  clear hx ht
  by_cases h0 : x = 0
  · subst h0
    have hv : askV A l c (0 : Int) = .slice A l.length c := rfl
    have hb : bndV 0 j = j := rfl
    rw [hv] at ha
    rw [hb]
    clear hv hb
    refine callsIn_of_wp_marks Try.func51 rfl trivial ?_ rfl
    simp only [Try.ntmps51, List.size_toArray, List.length_cons, List.length_nil, Nat.reduceAdd, Nat.reduceSub, Array.replicate_succ, Array.replicate_zero, List.push_toArray, List.append_toArray, List.nil_append, List.cons_append]
    gi_wp2_with (gi_at_call 60; refine (ha _ hr).mono ?_; rintro e w1 ⟨rfl, hb1⟩)
    have hw1 := hway trivial _ hb1
    clear hway ha
    refine CallsIn.mono ((callsIn_wide (n := 8)).2 hw1) ?_
    rintro e w2 ⟨rfl, hb2⟩
    gi_wp2
    exact ⟨_, results_tmp2 rfl _ _ _, rfl, vbelow_step hb1 hb2⟩
  · have hne : (x != 0) = true := bne_iff_ne.2 h0
    have hb : bndV x j = 0 := if_neg h0
    have hv : askV A l c x = .slice none 0 0 := if_neg h0
    rw [hv] at ha
    rw [hb]
    clear hv hb hway
    refine callsIn_of_wp_marks Try.func51 rfl trivial ?_ rfl
    simp only [Try.ntmps51, List.size_toArray, List.length_cons, List.length_nil, Nat.reduceAdd, Nat.reduceSub, Array.replicate_succ, Array.replicate_zero, List.push_toArray, List.append_toArray, List.nil_append, List.cons_append]
    gi_wp2_with (gi_at_call 60; refine (ha _ hr).mono ?_; rintro e w1 ⟨rfl, hb1⟩)
    exact ⟨_, results_tmp2 rfl _ _ _, rfl, hb1⟩
set_option maxRecDepth 100000 in
set_option maxHeartbeats 4000000 in
theorem bound_55 (A : Option Addr) (c : Nat) (l : List Int) (a b e j : Int) (w : World) (hr : Kd.C (Kd.int .u64) w A l.length l) (hc : l.length ≤ c) (ht : lattice_Check.f l = some e)
    (hway : askE l a b e = 0 → ∀ w', Below w.heap.size w w' → Calls Try.prog 55 #[.slice A l.length c, .int .i64 a, .int .i64 b] w' fun e W => e = .returned (.int .u64 j) ∧ Below w'.heap.size w' W) :
    Calls Try.prog 51 #[.slice A l.length c, .int .i64 a, .int .i64 b, .func (.func 55) #[] #[]] w fun e_ w' => e_ = .returned (.tuple #[.int .u64 (bndV (askE l a b e) j), .int .i64 (askE l a b e)]) ∧ Below w.heap.size w w' := by
  refine (callsIn_wide (n := 9)).1 ?_
  have f60 : Fence.wide.fn 60 := trivial
  have fk : Fence.wide.fn 55 := trivial
  have ha := fun W hrW => (callsIn_wide (n := 8)).2 (asked_ok A c l a b e W hrW hc ht)
  generalize hx : askE l a b e = x at ha hway ⊢
  clear hx ht
  by_cases h0 : x = 0
  · subst h0
    have hv : askV A l c (0 : Int) = .slice A l.length c := rfl
    have hb : bndV 0 j = j := rfl
    rw [hv] at ha
    rw [hb]
    clear hv hb
    refine callsIn_of_wp_marks Try.func51 rfl trivial ?_ rfl
    simp only [Try.ntmps51, List.size_toArray, List.length_cons, List.length_nil, Nat.reduceAdd, Nat.reduceSub, Array.replicate_succ, Array.replicate_zero, List.push_toArray, List.append_toArray, List.nil_append, List.cons_append]
    gi_wp2_with (gi_at_call 60; refine (ha _ hr).mono ?_; rintro e w1 ⟨rfl, hb1⟩)
    have hw1 := hway trivial _ hb1
    clear hway ha
    refine CallsIn.mono ((callsIn_wide (n := 8)).2 hw1) ?_
    rintro e w2 ⟨rfl, hb2⟩
    gi_wp2
    exact ⟨_, results_tmp2 rfl _ _ _, rfl, vbelow_step hb1 hb2⟩
  · have hne : (x != 0) = true := bne_iff_ne.2 h0
    have hb : bndV x j = 0 := if_neg h0
    have hv : askV A l c x = .slice none 0 0 := if_neg h0
    rw [hv] at ha
    rw [hb]
    clear hv hb hway
    refine callsIn_of_wp_marks Try.func51 rfl trivial ?_ rfl
    simp only [Try.ntmps51, List.size_toArray, List.length_cons, List.length_nil, Nat.reduceAdd, Nat.reduceSub, Array.replicate_succ, Array.replicate_zero, List.push_toArray, List.append_toArray, List.nil_append, List.cons_append]
    gi_wp2_with (gi_at_call 60; refine (ha _ hr).mono ?_; rintro e w1 ⟨rfl, hb1⟩)
    exact ⟨_, results_tmp2 rfl _ _ _, rfl, hb1⟩
/-! ### the ways -/
def jnF (l : List Int) (a b : Int) : Int := ((jst (rowsF l) (rowsF l a.toNat &&& rowsF l b.toNat) (labs l.length l.length) : Nat) : Int)
theorem check_okU {l : List Int} {e : Int} (h : lattice_Check.f l = some e) : okUb l = true := by
  unfold lattice_Check.f lattice_Missing.f at h
  split at h
  · assumption
  · cases h
theorem check_shape {l : List Int} (h : lattice_Check.f l = some 0) : lattice_shape.f l = some 0 := by
  have h0 := check_okU h
  unfold lattice_Check.f lattice_Missing.f at h
  rw [if_pos h0] at h
  cases hs : lattice_shape.f l with
  | none => rw [hs] at h; cases h
  | some x =>
    rw [hs] at h
    by_cases hx : x = 0
    · rw [hx]
    · simp only [Option.bind_some, if_neg hx, Option.some.injEq] at h
      exact absurd h hx
theorem asked_zero {l : List Int} {a b e : Int} (h : askE l a b e = 0) : e = 0 ∧ 0 ≤ a ∧ a < l.length ∧ 0 ≤ b ∧ b < l.length := by
  unfold askE at h
  split at h
  · next h0 =>
    split at h
    · cases h
    · next h1 => exact ⟨h0, by omega, by omega, by omega, by omega⟩
  · next h0 => exact absurd h h0
theorem joins_call (A : Option Addr) (c : Nat) (l : List Int) (a b : Int) (w : World) (hr : Kd.C (Kd.int .u64) w A l.length l) (hc : l.length ≤ c) (hs : okUb l = true) (h16 : l.length ≤ 16) (ha0 : 0 ≤ a) (ha : a < l.length) (hb0 : 0 ≤ b) (hb : b < l.length) :
    Calls Try.prog 52 #[.slice A l.length c, .int .i64 a, .int .i64 b] w fun e W => e = .returned (.int .u64 (jnF l a b)) ∧ Below w.heap.size w W := by
  obtain ⟨an, rfl⟩ := Int.eq_ofNat_of_zero_le ha0
  obtain ⟨bn, rfl⟩ := Int.eq_ofNat_of_zero_le hb0
  exact callsIn_wide.1 (joins_in A c l (okU_of hs) (by omega) w hr hc an bn (by omega) (by omega))
def lattice_Joins.f (l : List Int) (a b : Int) : Option (Int × Int) := (lattice_Check.f l).bind fun e => some (bndV (askE l a b e) (jnF l a b), askE l a b e)
set_option maxRecDepth 100000 in
set_option maxHeartbeats 4000000 in
theorem lattice_Joins.calls (A0 : Option Addr) (c0 : Nat) (l0 : List Int) (a1 : Int) (a2 : Int) (r1 : Int) (r2 : Int) (w : World) (hr0 : Kd.C (Kd.int .u64) w A0 l0.length l0) (hc0 : l0.length ≤ c0) (h : lattice_Joins.f l0 a1 a2 = some (r1, r2)) :
    Calls Try.prog 18 #[.slice A0 l0.length c0, .int .i64 a1, .int .i64 a2] w fun e w' => e = .returned (.tuple #[.int .u64 r1, .int .i64 r2]) ∧ Below w.heap.size w w' := by
  unfold lattice_Joins.f at h
  cases hC : lattice_Check.f l0 with
  | none => rw [hC] at h; cases h
  | some e =>
    rw [hC] at h
    simp only [Option.bind_some, Option.some.injEq, Prod.mk.injEq] at h
    obtain ⟨h1, h2⟩ := h
    have hb := fun W hrW => (callsIn_wide (n := 8)).2 (bound_52 A0 c0 l0 a1 a2 e (jnF l0 a1 a2) W hrW hc0 hC (fun h0 w' hb => by
      obtain ⟨he, a0, a1', b0, b1⟩ := asked_zero h0
      have hs := check_shape (he ▸ hC)
      exact joins_call A0 c0 l0 a1 a2 w' (Kd.C_below hrW hb) hc0 (check_okU hC) (shape_zero hs).1 a0 a1' b0 b1))
    rw [h1, h2] at hb
    clear h1 h2 hC
    refine (callsIn_wide (n := 9)).1 ?_
    have f51 : Fence.wide.fn 51 := trivial
    refine callsIn_of_wp_marks Try.func18 rfl trivial ?_ rfl
    simp only [Try.ntmps18, List.size_toArray, List.length_cons, List.length_nil, Nat.reduceAdd, Nat.reduceSub, Array.replicate_succ, Array.replicate_zero, List.push_toArray, List.append_toArray, List.nil_append, List.cons_append]
    gi_wp2_with (gi_at_call 51; refine (hb _ hr0).mono ?_; rintro e w1 ⟨rfl, hb1⟩)
    exact ⟨_, results_tmp2 rfl _ _ _, rfl, hb1⟩
/-! ### the meets -/
def turnL (l : List Int) : List Int := rowsI (turnK (rowsF l) l.length) l.length
theorem turned_is {l : List Int} (h : lattice_shape.f l = some 0) : lattice_policy_turned.f l = some (turnL l) := by
  obtain ⟨_, _, h1, h2⟩ := shape_zero h
  unfold lattice_policy_turned.f bits_Turn.f
  rw [if_pos h1, if_pos h2]
  rfl
theorem turnL_len (l : List Int) : (turnL l).length = l.length := rowsI_len _ _
theorem turnL_ok {l : List Int} (h : l.length ≤ 64) : okUb (turnL l) = true := by
  unfold okUb turnL rowsI
  rw [List.all_eq_true]
  intro x hx
  obtain ⟨i, _, rfl⟩ := List.mem_map.1 hx
  have h1 := turnK_lt (rowsF l) h i
  simp
  omega
set_option maxRecDepth 100000 in
set_option maxHeartbeats 4000000 in
theorem meets_call (A : Option Addr) (c : Nat) (l : List Int) (a b : Int) (w : World) (hr : Kd.C (Kd.int .u64) w A l.length l) (hc : l.length ≤ c) (hs : lattice_shape.f l = some 0) (ha0 : 0 ≤ a) (ha : a < l.length) (hb0 : 0 ≤ b) (hb : b < l.length) :
    Calls Try.prog 55 #[.slice A l.length c, .int .i64 a, .int .i64 b] w fun e W => e = .returned (.int .u64 (jnF (turnL l) a b)) ∧ Below w.heap.size w W := by
  have h16 := (shape_zero hs).1
  have htl := turnL_len l
  have hto := turnL_ok (l := l) (by omega)
  have hT := fun W hrW => (callsIn_wide (n := 8)).2 (lattice_policy_turned.calls A c l (turnL l) W hrW hc (turned_is hs))
  have hJ := fun A' c' W hrW hcW => (callsIn_wide (n := 8)).2 (joins_call A' c' (turnL l) a b W hrW hcW hto (by omega) ha0 (by omega) hb0 (by omega))
  clear hs h16 htl hto
  refine (callsIn_wide (n := 9)).1 ?_
  have f57 : Fence.wide.fn 57 := trivial
  have f52 : Fence.wide.fn 52 := trivial
  refine callsIn_of_wp_marks Try.func55 rfl trivial ?_ rfl
  simp only [Try.ntmps55, List.size_toArray, List.length_cons, List.length_nil, Nat.reduceAdd, Nat.reduceSub, Array.replicate_succ, Array.replicate_zero, List.push_toArray, List.append_toArray, List.nil_append, List.cons_append]
  gi_wp2_with (gi_at_call 57; refine (hT _ hr).mono ?_; rintro e w1 ⟨v1, rfl, hR1, hb1⟩; obtain ⟨A1, c1, rfl⟩ := Kd.R_slice hR1; have hC1 := (Kd.R_reads' hR1).2.2; have hc1 := (Kd.R_reads' hR1).2.1)
  gi_wp2_with (gi_at_call 52; refine (hJ _ _ _ hC1 hc1).mono ?_; rintro e w2 ⟨rfl, hb2⟩)
  exact ⟨_, results_tmp rfl _ _ _, rfl, vbelow_step hb1 hb2⟩
def lattice_Meets.f (l : List Int) (a b : Int) : Option (Int × Int) := (lattice_Check.f l).bind fun e => some (bndV (askE l a b e) (jnF (turnL l) a b), askE l a b e)
set_option maxRecDepth 100000 in
set_option maxHeartbeats 4000000 in
theorem lattice_Meets.calls (A0 : Option Addr) (c0 : Nat) (l0 : List Int) (a1 : Int) (a2 : Int) (r1 : Int) (r2 : Int) (w : World) (hr0 : Kd.C (Kd.int .u64) w A0 l0.length l0) (hc0 : l0.length ≤ c0) (h : lattice_Meets.f l0 a1 a2 = some (r1, r2)) :
    Calls Try.prog 20 #[.slice A0 l0.length c0, .int .i64 a1, .int .i64 a2] w fun e w' => e = .returned (.tuple #[.int .u64 r1, .int .i64 r2]) ∧ Below w.heap.size w w' := by
  unfold lattice_Meets.f at h
  cases hC : lattice_Check.f l0 with
  | none => rw [hC] at h; cases h
  | some e =>
    rw [hC] at h
    simp only [Option.bind_some, Option.some.injEq, Prod.mk.injEq] at h
    obtain ⟨h1, h2⟩ := h
    have hb := fun W hrW => (callsIn_wide (n := 8)).2 (bound_55 A0 c0 l0 a1 a2 e (jnF (turnL l0) a1 a2) W hrW hc0 hC (fun h0 w' hb => by
      obtain ⟨he, a0, a1', b0, b1⟩ := asked_zero h0
      exact meets_call A0 c0 l0 a1 a2 w' (Kd.C_below hrW hb) hc0 (check_shape (he ▸ hC)) a0 a1' b0 b1))
    rw [h1, h2] at hb
    clear h1 h2 hC
    refine (callsIn_wide (n := 9)).1 ?_
    have f51 : Fence.wide.fn 51 := trivial
    refine callsIn_of_wp_marks Try.func20 rfl trivial ?_ rfl
    simp only [Try.ntmps20, List.size_toArray, List.length_cons, List.length_nil, Nat.reduceAdd, Nat.reduceSub, Array.replicate_succ, Array.replicate_zero, List.push_toArray, List.append_toArray, List.nil_append, List.cons_append]
    gi_wp2_with (gi_at_call 51; refine (hb _ hr0).mono ?_; rintro e w1 ⟨rfl, hb1⟩)
    exact ⟨_, results_tmp2 rfl _ _ _, rfl, hb1⟩
end Go.Proofs.Ytlbjcmiegbejdaa.Q
