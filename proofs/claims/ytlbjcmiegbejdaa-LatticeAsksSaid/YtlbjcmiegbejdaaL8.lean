/- Layer 2: Lattice and Flows in the printed form. -/
import Derived.Test.YtlbjcmiegbejdaaL7
namespace Go.Proofs.Ytlbjcmiegbejdaa.Q
open Go.RowKit Go.Shelf Bm
attribute [local go_sem] Oper.semAt_some
set_option linter.unusedVariables false
set_option linter.unusedSimpArgs false
open Go.Proofs.YtlbjcmiegbejdaaW.PrintWords Go.Proofs.YtlbjcmiegbejdaaW.PrintMore Go.Proofs.YtlbjcmiegbejdaaW.PrintLast
attribute [local go_sem] max2_int min2_int max_two min_two max_three min_three max_four min_four
/-- The first two labels that lack a join or a meet. -/
def latF (l : List Int) : Option (Nat × Nat) := (labs l.length l.length).findSome? fun x : Fin l.length => ((labs l.length l.length).find? fun y : Fin l.length => badB l x.val y.val).map fun y => (x.val, y.val)
theorem latF_none {l : List Int} (h : ∀ x y : Fin l.length, badB l x y = false) : latF l = none := by
  unfold latF
  rw [List.findSome?_eq_none_iff]
  intro x _
  rw [Option.map_eq_none_iff, List.find?_eq_none]
  intro y _
  rw [h x y]
  decide
theorem latF_some {l : List Int} {pre : List (Fin l.length)} {x y : Fin l.length} (hp : pre <+: labs l.length l.length) (h : FirstAt l pre x y) : latF l = some (x.val, y.val) := by
  obtain ⟨p0, rfl, hg, q, hq, hq2, hb⟩ := h
  have e1 : ((labs l.length l.length).find? fun y : Fin l.length => badB l x.val y.val) = some y := by
    obtain ⟨r, hr⟩ := hq
    rw [← hr, List.append_assoc, List.find?_append]
    have h0 : (q.find? fun y : Fin l.length => badB l x.val y.val) = none := by
      rw [List.find?_eq_none]
      intro y' hy'
      rw [hq2 y' hy']
      decide
    rw [h0]
    simp [hb]
  have hS : ∀ z : List (Fin l.length), z = p0 ++ [x] → ∀ r, (z ++ r).findSome? (fun x : Fin l.length => ((labs l.length l.length).find? fun y : Fin l.length => badB l x.val y.val).map fun y => (x.val, y.val)) = some (x.val, y.val) := by
    rintro _ rfl r
    rw [List.append_assoc, List.findSome?_append]
    have h0 : p0.findSome? (fun x : Fin l.length => ((labs l.length l.length).find? fun y : Fin l.length => badB l x.val y.val).map fun y => (x.val, y.val)) = none := by
      rw [List.findSome?_eq_none_iff]
      intro x' hx'
      rw [Option.map_eq_none_iff, List.find?_eq_none]
      intro y' _
      rw [hg x' hx' y']
      decide
    rw [h0]
    simp [e1]
  obtain ⟨r, hr⟩ := hp
  have := hS _ rfl r
  rw [hr] at this
  exact this
set_option maxRecDepth 100000 in
set_option maxHeartbeats 4000000 in
theorem lattice_err (A : Option Addr) (c : Nat) (l : List Int) (e0 : Int) (w : World) (hC : Kd.C (Kd.int .u64) w A l.length l) (hc : l.length ≤ c) (hck : lattice_Check.f l = some e0) (he : e0 ≠ 0) :
    Calls Try.prog 24 #[.slice A l.length c] w fun e w' => e = .returned (.tuple #[.agg #[.int .i64 0, .int .i64 0], .bool false, .int .i64 e0]) ∧ Below w.heap.size w w' := by
  refine (callsIn_wide (n := 9)).1 ?_
  have f16 : Fence.wide.fn 16 := trivial
  have hne : (e0 != 0) = true := bne_iff_ne.2 he
  have z2 : Stop w.heap.size (w.heap.size + 1) (w.heap.size + 1 + 1) 0 0 false (((w.alloc (.cells #[.int .i64 0, .int .i64 0] 32)).alloc (.cells #[.bool false] 4)).alloc (.cells #[.int .i64 0] 26)) := by
    refine ⟨heap_alloc' (heap_alloc' (World.alloc_heap_new w _)), ?_, ?_⟩
    · have h_ := World.alloc_heap_new (w.alloc (.cells #[.int .i64 0, .int .i64 0] 32)) (.cells #[.bool false] 4)
      rw [World.size_alloc] at h_
      exact heap_alloc' h_
    · have h_ := World.alloc_heap_new ((w.alloc (.cells #[.int .i64 0, .int .i64 0] 32)).alloc (.cells #[.bool false] 4)) (.cells #[.int .i64 0] 26)
      simp only [World.size_alloc] at h_
      exact h_
  have hBa : Below w.heap.size w (((w.alloc (.cells #[.int .i64 0, .int .i64 0] 32)).alloc (.cells #[.bool false] 4)).alloc (.cells #[.int .i64 0] 26)) := vbelow_alloc (vbelow_alloc (vbelow_alloc (Below.refl _ _) _) _) _
  have hCa := Kd.C_below hC hBa
  refine callsIn_of_wp_marks Try.func24 rfl trivial ?_ rfl
  simp only [Try.ntmps24, List.size_toArray, List.length_cons, List.length_nil, Nat.reduceAdd, Nat.reduceSub, Array.replicate_succ, Array.replicate_zero, List.push_toArray, List.append_toArray, List.nil_append, List.cons_append]
  gi_wp2_with (gi_at_call 16; go_loud (refine ((callsIn_wide (n := 8)).2 (lattice_Check.calls A c l e0 _ hCa hc hck)).mono ?_; rintro e w1 ⟨rfl, hb1⟩; have z1 := z2.below hb1; have hB1 := vbelow_step hBa hb1; have k20 : w1.cell? ⟨w.heap.size, 0, none⟩ = some (.int .i64 0) := (by simp [World.cell?, z1.flow]); have k21 : w1.cell? ⟨w.heap.size, 1, none⟩ = some (.int .i64 0) := (by simp [World.cell?, z1.flow]); have k30 : w1.cell? ⟨w.heap.size + 1, 0, none⟩ = some (.bool false) := (by simp [World.cell?, z1.flag]); have k40 : w1.cell? ⟨w.heap.size + 1 + 1, 0, none⟩ = some (.int .i64 0) := (by simp [World.cell?, z1.err]); have f20 : w1.frozen? ⟨w.heap.size, 0, none⟩ = false := (by simp [World.frozen?, z1.flow]); have f21 : w1.frozen? ⟨w.heap.size, 1, none⟩ = false := (by simp [World.frozen?, z1.flow]); have f30 : w1.frozen? ⟨w.heap.size + 1, 0, none⟩ = false := (by simp [World.frozen?, z1.flag]); have f40 : w1.frozen? ⟨w.heap.size + 1 + 1, 0, none⟩ = false := (by simp [World.frozen?, z1.err]); have hn1 : w.heap.size + 1 ≠ w.heap.size := (by omega); have hn2 : w.heap.size + 1 + 1 ≠ w.heap.size := (by omega); have hn3 : w.heap.size + 1 + 1 ≠ w.heap.size + 1 := (by omega)))
  have hFl := heap_setbox (u := Value.int .i64 e0) (heap_setbox (u := Value.bool false) (heap_put (j := 1) (u := Value.int .i64 0) (heap_put (j := 0) (u := Value.int .i64 0) z1.flow)) (by omega : w.heap.size ≠ w.heap.size + 1)) (by omega : w.heap.size ≠ w.heap.size + 1 + 1)
  have hFg := heap_setbox (u := Value.int .i64 e0) (heap_put (j := 0) (u := Value.bool false) (heap_set1 (u := Value.int .i64 0) (heap_setbox (u := Value.int .i64 0) z1.flag (by omega : w.heap.size + 1 ≠ w.heap.size)) (by omega : w.heap.size + 1 ≠ w.heap.size))) (by omega : w.heap.size + 1 ≠ w.heap.size + 1 + 1)
  have hFe := heap_put (j := 0) (u := Value.int .i64 e0) (heap_setbox (u := Value.bool false) (heap_set1 (u := Value.int .i64 0) (heap_setbox (u := Value.int .i64 0) z1.err (by omega : w.heap.size + 1 + 1 ≠ w.heap.size)) (by omega : w.heap.size + 1 + 1 ≠ w.heap.size)) (by omega : w.heap.size + 1 + 1 ≠ w.heap.size + 1))
  have r20 := cell_of_heap (j := 0) hFl rfl
  have r21 := cell_of_heap (j := 1) hFl rfl
  have r30 := cell_of_heap (j := 0) hFg rfl
  have r40 := cell_of_heap (j := 0) hFe rfl
  refine ⟨.tuple #[.agg #[.int .i64 0, .int .i64 0], .bool false, .int .i64 e0], ?_, rfl, (((hB1.setCell (p := ⟨w.heap.size, 0, none⟩) (Nat.le_refl _) _).setCell (p := ⟨w.heap.size, 1, none⟩) (Nat.le_refl _) _).setCell (p := ⟨w.heap.size + 1, 0, none⟩) (by simp) _).setCell (p := ⟨w.heap.size + 1 + 1, 0, none⟩) (by simp; omega) _⟩
  simp [results, Try.f24, go_sem, r20, r21, r30, r40]
def latT (l : List Int) : Int × Int × Bool × Int := match latF l with
  | none => (0, 0, true, 0)
  | some (x, y) => ((x : Int), (y : Int), false, 0)
def lattice_Lattice.f (l : List Int) : Option (Int × Int × Bool × Int) := (lattice_Check.f l).bind fun e => if e = 0 then some (latT l) else some (0, 0, false, e)
theorem lattice_Lattice.calls (A0 : Option Addr) (c0 : Nat) (l0 : List Int) (r1 : Int) (r2 : Int) (r3 : Bool) (r4 : Int) (w : World) (hr0 : Kd.C (Kd.int .u64) w A0 l0.length l0) (hc0 : l0.length ≤ c0) (h : lattice_Lattice.f l0 = some (r1, r2, r3, r4)) :
    Calls Try.prog 24 #[.slice A0 l0.length c0] w fun e w' => e = .returned (.tuple #[.agg #[.int .i64 r1, .int .i64 r2], .bool r3, .int .i64 r4]) ∧ Below w.heap.size w w' := by
  unfold lattice_Lattice.f at h
  cases hC : lattice_Check.f l0 with
  | none => rw [hC] at h; cases h
  | some e0 =>
    rw [hC, Option.bind_some] at h
    by_cases he : e0 = 0
    · subst he
      rw [if_pos rfl, Option.some.injEq] at h
      have hs := check_shape hC
      refine (lattice_ok A0 c0 l0 w hr0 hc0 (check_okU hC) (shape_zero hs).1 hC hs).mono ?_
      rintro e w' ⟨⟨rfl, hg⟩ | ⟨pre, x, y, hp, hF, rfl⟩, hb⟩
      · have e1 := latF_none hg
        unfold latT at h
        rw [e1] at h
        simp only [Prod.mk.injEq] at h
        obtain ⟨rfl, rfl, rfl, rfl⟩ := h
        exact ⟨rfl, hb⟩
      · have e1 := latF_some hp hF
        unfold latT at h
        rw [e1] at h
        simp only [Prod.mk.injEq] at h
        obtain ⟨rfl, rfl, rfl, rfl⟩ := h
        exact ⟨rfl, hb⟩
    · rw [if_neg he] at h
      simp only [Option.some.injEq, Prod.mk.injEq] at h
      obtain ⟨rfl, rfl, rfl, rfl⟩ := h
      exact lattice_err A0 c0 l0 e0 w hr0 hc0 hC he
/-! ### lattice_policy_flows: function 61 -/
def lattice_policy_flows.f (l0 : List Int) (a1 : Int) (a2 : Int) : Option (Bool) := if 0 ≤ a1 then (if a1 < (l0.length : Int) then (if 0 ≤ a2 then (some ((Go.bits .and .u64 (shr .u64 (rd l0 a1) a2) 1) == 1)) else (none)) else (none)) else (none)
set_option maxHeartbeats 8000000 in
set_option maxRecDepth 100000 in
theorem lattice_policy_flows.calls (A0 : Option Addr) (c0 : Nat) (l0 : List Int) (a1 : Int) (a2 : Int) (r : Bool) (w : World) (hr0 : Kd.C (Kd.int .u64) w A0 l0.length l0) (hc0 : l0.length ≤ c0) (h : lattice_policy_flows.f l0 a1 a2 = some r) :
    Calls Try.prog 61 #[.slice A0 l0.length c0, .int .i64 a1, .int .i64 a2] w fun e w' => e = .returned (.bool r) ∧ Drawn0 w w' := by
  have HR0 := Aside0.mk hr0
  have HC0 := Aside0.mk hc0
  clear hr0 hc0
  have H : (if 0 ≤ a1 then (if a1 < (l0.length : Int) then (if 0 ≤ a2 then (some ((Go.bits .and .u64 (shr .u64 (rd l0 a1) a2) 1) == 1)) else (none)) else (none)) else (none)) = some r := h
  clear h
  by_cases c4 : 0 ≤ a1
  · rw [if_pos c4] at H
    have c4b0 : decide (0 ≤ a1) = true := decide_eq_true c4
    clear c4
    by_cases c5 : a1 < (l0.length : Int)
    · rw [if_pos c5] at H
      have c5b0 : decide (a1 < (l0.length : Int)) = true := decide_eq_true c5
      clear c5
      by_cases c6 : 0 ≤ a2
      · rw [if_pos c6] at H
        have c6b0 := eq_true c6
        have c6b1 : decide (0 ≤ a2) = true := decide_eq_true c6
        clear c6
        obtain ⟨ji7, hji7⟩ : ∃ j_ : Int, (shr .u64 (rd l0 a1) a2) = j_ := ⟨_, rfl⟩
        replace H : (some ((Go.bits .and .u64 (ji7) 1) == 1)) = some r := by first | (rw [hji7] at H; exact H) | (simp only [hji7] at H ⊢; exact H)
        have hji7_ : ((rd l0 a1) / 2 ^ min a2.toNat 64) = ji7 := hji7
        have hji7z : a2 ≤ 64 → ((rd l0 a1) / 2 ^ a2.toNat) = ji7 := shr_small hji7
        obtain rfl := Option.some.inj H
        have p206 : 0 ≤ (a1 : Int) := of_decide_eq_true (by first | (with_reducible assumption) | assumption)
        have q206 : a1 < (l0.length : Int) := of_decide_eq_true (by first | (with_reducible assumption) | assumption)
        obtain ⟨ad206, e206, hx206_0⟩ := Kd.at_int HR0.out a1 p206 q206
        cases e206
        replace p206 := eq_true p206
        replace q206 := eq_true q206
        go_enter Try.func61, Try.ntmps61
        go_wp2
        go_ret
        exact ⟨by first | rfl | (simp; done) | (simp only [← hji7] <;> (first | rfl | simp)) | (simp [*]; done), by repeat (first | exact Drawn0.refl _ | apply Drawn0.step)⟩
      · rw [if_neg c6] at H
        exact absurd H (by simp)
    · rw [if_neg c5] at H
      exact absurd H (by simp)
  · rw [if_neg c4] at H
    exact absurd H (by simp)

def lattice_Flows.f (l : List Int) (a b : Int) : Option (Bool × Int) := (lattice_Check.f l).bind fun e => if askE l a b e = 0 then (lattice_policy_flows.f l a b).bind fun t => some (t, 0) else some (false, askE l a b e)
set_option maxRecDepth 100000 in
set_option maxHeartbeats 4000000 in
theorem lattice_Flows.calls (A0 : Option Addr) (c0 : Nat) (l0 : List Int) (a1 : Int) (a2 : Int) (r1 : Bool) (r2 : Int) (w : World) (hr0 : Kd.C (Kd.int .u64) w A0 l0.length l0) (hc0 : l0.length ≤ c0) (h : lattice_Flows.f l0 a1 a2 = some (r1, r2)) :
    Calls Try.prog 29 #[.slice A0 l0.length c0, .int .i64 a1, .int .i64 a2] w fun e w' => e = .returned (.tuple #[.bool r1, .int .i64 r2]) ∧ Below w.heap.size w w' := by
  unfold lattice_Flows.f at h
  cases hC : lattice_Check.f l0 with
  | none => rw [hC] at h; cases h
  | some e0 =>
    rw [hC, Option.bind_some] at h
    have ha := fun W hrW => (callsIn_wide (n := 8)).2 (asked_ok A0 c0 l0 a1 a2 e0 W hrW hc0 hC)
    generalize hx : askE l0 a1 a2 e0 = x at ha h
    clear hx hC
    have f60 : Fence.wide.fn 60 := trivial
    have f61 : Fence.wide.fn 61 := trivial
    by_cases h0 : x = 0
    · subst h0
      have hv : askV A0 l0 c0 (0 : Int) = .slice A0 l0.length c0 := rfl
      rw [hv] at ha
      rw [if_pos rfl] at h
      cases hF : lattice_policy_flows.f l0 a1 a2 with
      | none => rw [hF] at h; cases h
      | some t =>
        rw [hF, Option.bind_some, Option.some.injEq, Prod.mk.injEq] at h
        obtain ⟨rfl, rfl⟩ := h
        have hf := fun W hrW => (callsIn_wide (n := 8)).2 (lattice_policy_flows.calls A0 c0 l0 a1 a2 t W hrW hc0 hF)
        clear hv hF
        refine (callsIn_wide (n := 9)).1 ?_
        refine callsIn_of_wp_marks Try.func29 rfl trivial ?_ rfl
        simp only [Try.ntmps29, List.size_toArray, List.length_cons, List.length_nil, Nat.reduceAdd, Nat.reduceSub, Array.replicate_succ, Array.replicate_zero, List.push_toArray, List.append_toArray, List.nil_append, List.cons_append]
        gi_wp2_with (gi_at_call 60; refine (ha _ hr0).mono ?_; rintro e w1 ⟨rfl, hb1⟩; have hC1 := Kd.C_below hr0 hb1)
        gi_wp2_with (gi_at_call 61; refine (hf _ hC1).mono ?_; rintro e w2 ⟨rfl, hd2⟩)
        exact ⟨_, results_tmp2 rfl _ _ _, rfl, vbelow_step hb1 hd2.below⟩
    · have hne : (x != 0) = true := bne_iff_ne.2 h0
      have hv : askV A0 l0 c0 x = .slice none 0 0 := if_neg h0
      rw [hv] at ha
      rw [if_neg h0] at h
      simp only [Option.some.injEq, Prod.mk.injEq] at h
      obtain ⟨rfl, rfl⟩ := h
      clear hv
      refine (callsIn_wide (n := 9)).1 ?_
      refine callsIn_of_wp_marks Try.func29 rfl trivial ?_ rfl
      simp only [Try.ntmps29, List.size_toArray, List.length_cons, List.length_nil, Nat.reduceAdd, Nat.reduceSub, Array.replicate_succ, Array.replicate_zero, List.push_toArray, List.append_toArray, List.nil_append, List.cons_append]
      gi_wp2_with (gi_at_call 60; refine (ha _ hr0).mono ?_; rintro e w1 ⟨rfl, hb1⟩)
      exact ⟨_, results_tmp2 rfl _ _ _, rfl, hb1⟩
end Go.Proofs.Ytlbjcmiegbejdaa.Q
