/- Layer 1: the law over sets, one way of it. -/
import Derived.Test.YtbbmibabjffcaaaS5
namespace Go.Proofs.Ytbbmibabjffcaaa.Q
open Go.RowKit Go.Shelf Go.Proofs.YtbbmibabjffcaaaW.PrintWords Go.Proofs.YtbbmibabjffcaaaW.PrintLast Go.Proofs.YtbbmibabjffcaaaW.PrintMore
attribute [local go_sem] max2_int min2_int max_two min_two
set_option linter.unusedVariables false
set_option linter.unusedSimpArgs false
set_option maxHeartbeats 8000000 in
set_option maxRecDepth 100000 in
theorem sets_hi_s (A : Option Addr) (c : Nat) (l : List Int) (s : Nat) (hs : s < 2 ^ 64) (i most : Int) (hmo : 64 < most) (w : World) (hr : Kd.C (Kd.int .i64) w A l.length l) (hc : l.length ≤ c) (hc1 : l.length ≤ 100) :
    Calls Try.prog 3 #[.slice A l.length c, .int .u64 s, .int .i64 i, .int .i64 most] w fun e w' => e = .returned (.bool true) ∧ Below w.heap.size w w' := by
  have hp64 := pfx_length s 64
  have hvl := vals_len (pfx s 64)
  have c1 : decide (((l.length : Nat) : Int) > 100) = false := decide_eq_false (by omega)
  obtain ⟨l2, hl2e⟩ : ∃ l2, l2 = l := ⟨_, rfl⟩
  subst hl2e
  have hl2 : l2.length = l2.length := rfl
  have hr2 := hr
  have hc2 := hc
  obtain ⟨⟨r1, r2⟩, hO, hRO⟩ := of_same (l := l2) (by omega)
  obtain ⟨kO, eO⟩ := hO.rounds
  obtain ⟨kR, eR⟩ := hRO.rounds
  obtain ⟨kL, eL⟩ := (list_ev hs).rounds
  obtain ⟨kH, eH⟩ := (has_ev hs i).rounds
  obtain ⟨kS, eS⟩ := (sames_ev (l := vals (pfx s 64)) (by omega)).rounds
  obtain ⟨kA, eA⟩ := alive_ev.rounds
  have eB := has_b hs i
  have eM : bits_List.f (s : Int) = some (vals (pfx s 64)) := by unfold bits_List.f; rw [if_pos (uOk_at hs), Int.toNat_natCast]
  have c2 : decide (most < 1) = false := decide_eq_false (by omega)
  have c3 : decide (most > 64) = true := decide_eq_true (by omega)
  obtain ⟨m, hmv⟩ : ∃ m : Nat, m = 64 := ⟨_, rfl⟩
  have hm1 : 1 ≤ m := by omega
  have hm64 : m ≤ 64 := by omega
  obtain ⟨kT, eT⟩ := (sames_ev (l := (vals (pfx s 64)).take m) (by rw [List.length_take]; omega)).rounds
  have hjl : ((vals (pfx s 64)).length : Int) = ((pfx s 64).length : Int) := by rw [hvl]
  have SQ := fun W0 Bs Bm Bg n1 h1 h2 h3 h4 h5 h6 h7 => seq_calls s hs Bs Bm Bg n1 m hm1 hm64 W0 h1 h2 h3 h4 h5 h6 h7
  have hmin : (vals (pfx s 64)).take (min (((vals (pfx s 64)).length : Nat) : Int) (m : Int)).toNat = (vals (pfx s 64)).take m := by
    by_cases h : (vals (pfx s 64)).length ≤ m
    · rw [Int.min_eq_left (by omega), Int.toNat_natCast, List.take_length, List.take_of_length_le h]
    · rw [Int.min_eq_right (by omega), Int.toNat_natCast]
  have EO := Lib.hid eO
  have ER := Lib.hid eR
  have EL := Lib.hid eL
  have EH := Lib.hid eH
  have ES := Lib.hid eS
  have ET := Lib.hid eT
  have EA := Lib.hid eA
  have EB := Lib.hid eB
  have EM := Lib.hid eM
  have HM := Lib.hid hmin
  have HS := Lib.hid SQ
  clear eO eR eL eH eS eT eA eB eM hO hRO hvl hjl hmin SQ
  generalize vals (pfx s 64) = P at *
  generalize hQ : P.take m = Q at *
  have HQ := Lib.hid hQ
  clear hQ
  go_enter Try.func3, Try.ntmps3
  go_wp2_with (first
    | (go_at_call 11; refine calls_of_args (args' := #[.slice A l2.length c]) (by first | rfl | (rw [hl2])) ?_; refine (bits_Of.calls kO A c l2 r1 r2 _ (Kd.C_alloc hr2 _) hc2 EO.out).mono ?_; rintro e w' ⟨rfl, ⟨nd, rfl⟩⟩)
    | (go_at_call 12; refine calls_of_args (args' := #[.slice A l2.length c]) (by first | rfl | (rw [hl2])) ?_; refine (rampartref01_Of.calls kR A c l2 r1 r2 _ (Kd.C_drewN (Kd.C_alloc hr2 _) _) hc2 ER.out).mono ?_; rintro e w' ⟨rfl, ⟨nd2, rfl⟩⟩)
    | (go_at_call 13; refine (rampartref01_List.calls kL s P _ EL.out).mono ?_; rintro e w3 ⟨v3, rfl, ho3, hb3⟩; obtain ⟨A3, c3, rfl⟩ := Kd.R_slice ho3; have hc3 := (Kd.R_reads' ho3).2.1; have hC3 := (Kd.R_reads' ho3).2.2; have hR3 := Kd.R_mono (ok' := fun k => w.heap.size < k) (Kd.R_bound ho3) (fun k hk => (by have h_ := hk.2.1; simp at h_; omega)); have bA : Below w.heap.size w (w.alloc (.cells #[.int .i64 most] 3)) := below_alloc (Below.refl _ _) _; have bD := pw_below_drewN bA (nd + nd2); have bN := boxed_drawn (Boxed.new w 3 (.int .i64 most)) (nd + nd2); have bM3 := boxed_below bN hb3 bN.lt; have hB3 := below_step bD hb3; clear bN bA bD hb3 ho3)
    | (go_at_call 15; refine (bits_List.calls s P _ EM.out).mono ?_; rintro e w4 ⟨v4, rfl, ho4, hb4⟩; obtain ⟨A4, c4, rfl⟩ := Kd.R_slice ho4; have hc4 := (Kd.R_reads' ho4).2.1; have hC4 := (Kd.R_reads' ho4).2.2; have hC34 := Kd.C_below hC3 hb4; have hR4 := Kd.R_below hR3 hb4; have bM4 := boxed_below bM3 hb4 bM3.lt; have hB4 := below_step hB3 hb4; clear hb4 ho4)
    | (go_at_call 14; refine (rampartlaw01_same.calls kS A4 c4 P A3 c3 P true _ hC4 hc4 hC34 hc3 ES.out).mono ?_; rintro e w' ⟨rfl, ⟨nd3, rfl⟩⟩)
    | (go_at_call 16; refine (bits_Has.calls s i (hasB s i) _ EB.out).mono ?_; rintro e w' ⟨rfl, ⟨nd4, rfl⟩⟩)
    | (go_at_call 17; refine (rampartref01_Has.calls kH s i (hasB s i) _ EH.out).mono ?_; rintro e w' ⟨rfl, ⟨nd5, rfl⟩⟩)
    | (go_at_call 18; refine (all_calls s _).mono ?_; rintro e w6 ⟨Bs, rfl, bS6, hge6, hb6⟩; have hEq := eqFun Bs w6; have hne6 : Bs ≠ w.heap.size := (by have h_ := bM4.lt; simp at hge6; omega); have hb46 := below_step (pw_below_drewN (Below.refl w4.heap.size w4) _) hb6; have hC6 := Kd.C_below hC34 hb46; have bM6 := boxed_below bM4 hb46 bM4.lt; have hM6 := bM6.cell; have hF6 := bM6.frozen; have hB6 := below_step hB4 hb46; have hR6 := Kd.R_below hR4 hb46)
    | (go_at_call 41; have bM7 := bM6.set (.int .i64 64); have bM8 := bM7.alloc (.cells #[.slice none 0 0] 22); have bS8 := (bS6.other hne6 (.int .i64 64)).alloc (.cells #[.slice none 0 0] 22); have bG8 := Boxed.new (w6.setCell ⟨w.heap.size, 0, none⟩ (.int .i64 64)) 22 (.slice none 0 0); have hR7 := Kd.R_far hR6 (p := ⟨w.heap.size, 0, none⟩) (fun k hk => (by have h_ : w.heap.size < k := hk; show k ≠ w.heap.size; omega)) (.int .i64 64); have hC7 := (Kd.R_reads' hR7).2.2; simp only [World.size_setCell] at bG8; refine (HS.out _ Bs w.heap.size w6.heap.size w6.heap.size (by rw [hmv]; exact bM8.cell) bM6.lt bS6.lt bS8.cell bG8 (Nat.le_refl _) (by simp)).mono ?_; rintro e w9 ⟨⟨v9, rfl⟩, hb9, vg, bG9, hoG⟩; obtain ⟨Ag, cg, rfl⟩ := Kd.R_slice hoG; have hcg := (Kd.R_reads' hoG).2.1; have hCg := (Kd.R_reads' hoG).2.2; have hG9 := bG9.cell; have hM9 := (hb9.cell (p := ⟨w.heap.size, 0, none⟩) bM6.lt).trans bM8.cell; have hb79 := ((Below.refl w6.heap.size (w6.setCell ⟨w.heap.size, 0, none⟩ (.int .i64 64))).alloc (by simp) (.cells #[.slice none 0 0] 22)).trans hb9; have hC9 := Kd.C_below hC7 (by simpa using hb79); have hB7 := hB6.setCell (p := ⟨w.heap.size, 0, none⟩) (Nat.le_refl _) (.int .i64 64); have hB9 : Below w.heap.size w w9 := (hB7.alloc (by simpa using hB6.size) _).trans (hb9.mono hB6.size)))

  obtain ⟨i0, hi0, hz0, hsz, _⟩ := info_parts infoI
  have hcut := (print_take_of (P := Try.prog) (Value.int .i64) 0 22 3 .i64 Try.underlying22 hi0 hsz A3 c3 P (if (64 : Int) < ((P.length : Nat) : Int) then 64 else ((P.length : Nat) : Int)) (by split <;> omega) (by split <;> omega) hc3).1
  have hq : P.take (if (64 : Int) < ((P.length : Nat) : Int) then 64 else ((P.length : Nat) : Int)).toNat = Q := by
    have h_ : (if (64 : Int) < ((P.length : Nat) : Int) then 64 else ((P.length : Nat) : Int)).toNat = min P.length m := by split <;> omega
    rw [h_, ← HQ.out]
    rcases Nat.le_total P.length m with h_ | h_
    · rw [Nat.min_eq_left h_, List.take_of_length_le (Nat.le_refl _), List.take_of_length_le h_]
    · rw [Nat.min_eq_right h_]
  rw [hq] at hcut
  have hCq : Kd.C (Kd.int .i64) w9 A3 Q.length Q := by rw [← HQ.out]; exact take_reads m hC9
  have hcq : Q.length ≤ c3 := by rw [← HQ.out, List.length_take]; omega
  refine wp_region_quietB (by kernel_rfl) (by kernel_rfl) ?_
  have q0 := gw_cell hG9
  have q1 := gw_cell hM9
  clear hG9 hM9
  repeat (first | go_big_quiet_step ((first
    | (go_at_call 14; exact quietB_of ((rampartlaw01_same.calls kT Ag cg Q A3 c3 Q true _ (Kd.C_below hCg (GW.property _)) hcg (Kd.C_below hCq (GW.property _)) hcq ET.out).mono (fun e w' h => ⟨h.1, drawn_below h.2⟩)))
    | (go_at_call 20; exact quietB_of (rampartlaw01_alive.calls kA true _ EA.out)))) | quiet_step (fail))
  refine wpQuiet_nil ?_
  rintro wE ⟨⟨wq_, hbE⟩, hwq_⟩
  obtain rfl : wE = wq_ := hwq_
  have hfin := below_step hB9 hbE
  refine (show ∀ (a : Act) (w : World), Code.wp Try.prog Code.ret _ a w → _ from by assumption) _ _ ?_
  refine wp_ret ?_
  refine bodyPost_ret (results_tmp rfl _ _ _) rfl ?_
  exact ⟨rfl, hfin⟩

end Go.Proofs.Ytbbmibabjffcaaa.Q
