-- Printed by a program of this session (wip/tools: the kit's printer, with functions proved by hand let in).
import Derived.Test.YtlbjcmiegbejdaaQx0
import Derived.Test.YtlbjcmiegbejdaaQx8
import Derived.Test.YtlbjcmiegbejdaaQx9
import Derived.Test.YtlbjcmiegbejdaaQx12
import Derived.Test.YtlbjcmiegbejdaaQx13
import Derived.Test.YtlbjcmiegbejdaaQx19
import Derived.Test.YtlbjcmiegbejdaaF1
namespace Go.Proofs.Ytlbjcmiegbejdaa.Q
open Go.RowKit Go.Proofs.YtlbjcmiegbejdaaW.PrintWords Go.Proofs.YtlbjcmiegbejdaaW.PrintLast Go.Proofs.YtlbjcmiegbejdaaW.PrintMore
attribute [local go_sem] max2_int min2_int max_two min_two max_three min_three max_four min_four   -- for this text's walks alone
set_option linter.unusedVariables false
set_option linter.unusedSimpArgs false

/-! ### rampartlaw02_LatticeOrder: function 10 -/
mutual
def rampartlaw02_LatticeOrder.l0 : Nat → List Int → List Int → Int → Int → Option (Bool)
 | 0, _, _, _, _ => none
 | k + 1, x0, x3, x5, x6 => if x6 < (x3.length : Int) then (if 0 ≤ x6 then (if (rd x3 x6) < 0 then (some false) else (if (rd x3 x6) ≥ (x0.length : Int) then (some false) else ((rampartref01_Has.f k x5 (rd x3 x6)).bind fun t555 => (if t555 = true then (some false) else (rampartlaw02_LatticeOrder.l1 k x0 x3 x5 x6 0))))) else (none)) else (some ((x3.length : Int) == (x0.length : Int)))
def rampartlaw02_LatticeOrder.l1 : Nat → List Int → List Int → Int → Int → Int → Option (Bool)
 | 0, _, _, _, _, _ => none
 | k + 1, x0, x3, x5, x6, x7 => if x7 < (x0.length : Int) then (if 0 ≤ x7 then (if 0 ≤ x6 then (if x6 < (x3.length : Int) then ((rampartref01_Has.f k (rd x0 x7) (rd x3 x6)).bind fun t558 => (if t558 = true then (if 0 ≤ (rd x3 x6) then (if (rd x3 x6) < (x0.length : Int) then ((rampartref01_Has.f k (rd x0 (rd x3 x6)) x7).bind fun t561 => (if t561 = true then (rampartlaw02_LatticeOrder.l1 k x0 x3 x5 x6 (wrap64 (x7 + 1))) else ((rampartref01_Has.f k x5 x7).bind fun t562 => (if t562 = true then (rampartlaw02_LatticeOrder.l1 k x0 x3 x5 x6 (wrap64 (x7 + 1))) else (some false))))) else (none)) else (none)) else (rampartlaw02_LatticeOrder.l1 k x0 x3 x5 x6 (wrap64 (x7 + 1))))) else (none)) else (none)) else (none)) else (if 0 ≤ x6 then (if x6 < (x3.length : Int) then (if 0 ≤ (IntKind.u64.wrap (rd x3 x6)) then (rampartlaw02_LatticeOrder.l0 k x0 x3 (Go.bits .or .u64 x5 (shl .u64 1 (IntKind.u64.wrap (rd x3 x6)))) (wrap64 (x6 + 1))) else (none)) else (none)) else (none))
end
def rampartlaw02_LatticeOrder.f (k : Nat) (l0 : List Int) : Option (Bool) := (rampartlaw02_awake.f k).bind fun t543 => (if t543 = true then ((some (l0.take 17 : List Int)).bind fun y544 => ((lattice_Order.f k y544).bind fun bt548 => (if bt548.2 = 0 then (rampartlaw02_LatticeOrder.l0 k y544 bt548.1 0 0) else (some ((bt548.1.length : Int) == 0))))) else (some false))
set_option maxHeartbeats 8000000 in
set_option maxRecDepth 100000 in
theorem rampartlaw02_LatticeOrder.calls (k : Nat) (A0 : Option Addr) (c0 : Nat) (l0 : List Int) (r : Bool) (w : World) (hr0 : Kd.C (Kd.int .u64) w A0 l0.length l0) (hc0 : l0.length ≤ c0) (h : rampartlaw02_LatticeOrder.f k l0 = some r) :
  Calls Try.prog 10 #[.slice A0 l0.length c0] w fun e w' => e = .returned (.bool r) ∧ Below w.heap.size w w' := by
 have HR0 := Aside0.mk hr0
 have HC0 := Aside0.mk hc0
 clear hr0 hc0
 have HB := Aside0.mk (Below.refl w.heap.size w)
 have H : ((rampartlaw02_awake.f k).bind fun t543 => (if t543 = true then ((some (l0.take 17 : List Int)).bind fun y544 => ((lattice_Order.f k y544).bind fun bt548 => (if bt548.2 = 0 then (rampartlaw02_LatticeOrder.l0 k y544 bt548.1 0 0) else (some ((bt548.1.length : Int) == 0))))) else (some false))) = some r := h
 clear h
 replace H := Option.bind_eq_some_iff.mp H
 obtain ⟨t543, A20, H⟩ := H
 replace H : (if t543 = true then ((some (l0.take 17 : List Int)).bind fun y544 => ((lattice_Order.f k y544).bind fun bt548 => (if bt548.2 = 0 then (rampartlaw02_LatticeOrder.l0 k y544 bt548.1 0 0) else (some ((bt548.1.length : Int) == 0))))) else (some false)) = some r := H
 have A2 := Aside0.mk A20
 clear A20
 by_cases c3 : t543 = true
 ·subst c3
  have H1 : ((some (l0.take 17 : List Int)).bind fun y544 => ((lattice_Order.f k y544).bind fun bt548 => (if bt548.2 = 0 then (rampartlaw02_LatticeOrder.l0 k y544 bt548.1 0 0) else (some ((bt548.1.length : Int) == 0))))) = some r := by rw [if_pos rfl] at H; exact H
  clear H
  have H := H1
  clear H1
  obtain ⟨y544, hy544⟩ : ∃ y_ : List Int, y_ = (l0.take 17) := ⟨_, rfl⟩
  replace H : ((lattice_Order.f k y544).bind fun bt548 => (if bt548.2 = 0 then (rampartlaw02_LatticeOrder.l0 k y544 bt548.1 0 0) else (some ((bt548.1.length : Int) == 0)))) = some r := by first | (rw [hy544]; with_reducible exact H) | (have H2_ := (Option.bind_some _ _).symm.trans H; rw [hy544]; with_reducible exact H2_) | (have H2_ := (Option.bind_some _ _).symm.trans H; with_reducible exact H2_) | with_reducible exact H | (rw [hy544]; exact H) | exact H
  have Ny544 := Aside0.mk hy544
  clear hy544
  replace H := Option.bind_eq_some_iff.mp H
  obtain ⟨⟨t548, t549⟩, A40, H⟩ := H
  replace H : (if t549 = 0 then (rampartlaw02_LatticeOrder.l0 k y544 t548 0 0) else (some ((t548.length : Int) == 0))) = some r := H
  have A4 := Aside0.mk A40
  clear A40
  by_cases c5 : t549 = 0
  ·rw [if_pos c5] at H
   have c5b0 : (t549 == 0) = true := beq_iff_eq.mpr c5
   have c5b1 : (t549 != 0) = false := bne_eq_false_iff_eq.mpr c5
   clear c5
   have H' := Aside0.mk H
   clear H
   go_enter Try.func10, Try.ntmps10
   go_wp2_with (first | (go_at_call 12; (with_reducible refine (rampartlaw02_awake.calls k  true _ A2.out).mono ?_); rintro e w6 ⟨rfl, hb⟩; have n0_ := Aside0.mk (below_step (stb HB) hb); clear HB; have HB := n0_; clear n0_; (try clear hb); (try clear hb2); (try clear hk); (try clear hi); have HR547 := Aside0.mk (few_cut 17 HR0.out Ny544.out); have HC547 := Aside0.mk (few_cap 17 HC0.out Ny544.out)) | ((with_reducible refine gate_callee (f := 13) rfl ?_); refine goesL_ (some 11) rfl rfl Try.func13 (by kernel_rfl) rfl #[.slice A0 l0.length c0] rfl (by (try simp only [List.map_toArray, List.map_cons, List.map_nil]); first | done | rfl) ?_; (refine (few_calls A0 c0 l0 y544 _ HC0.out Ny544.out).mono ?_); rintro e w' ⟨rfl, rfl⟩; refine ⟨_, rfl, ?_⟩) | (go_at_call 37; (with_reducible refine (lattice_Order.calls k _ _ y544 t548 t549 _ ?side1 ?side2 A4.out).mono ?_); (case side1 => repeat (first | exact (Kd.C_below HR547.out HB.out) | (with_reducible refine Kd.C_alloc ?_ _) | (with_reducible refine Kd.C_drewN ?_ _) | (with_reducible refine Kd.C_drew ?_))); (case side2 => exact HC547.out); rintro e w8 ⟨v550, rfl, ho0, hb⟩; have n0_ := Aside0.mk (Kd.R_lower ho0 (below_size (stb HB))); have n1_ := Aside0.mk (below_step (stb HB) hb); clear HB; have HO551 := n0_; have HB := n1_; clear n0_ n1_; (try clear hb); (try clear hb2); (try clear hk); (try clear hi); (try clear ho0)))
   repeat (go_quiet (first | (go_at_call 12; (with_reducible refine (rampartlaw02_awake.calls k  true _ A2.out).mono ?_); rintro e w6 ⟨rfl, hb⟩; have n0_ := Aside0.mk (below_step (stb HB) hb); clear HB; have HB := n0_; clear n0_; (try clear hb); (try clear hb2); (try clear hk); (try clear hi); have HR547 := Aside0.mk (few_cut 17 HR0.out Ny544.out); have HC547 := Aside0.mk (few_cap 17 HC0.out Ny544.out)) | ((with_reducible refine gate_callee (f := 13) rfl ?_); refine goesL_ (some 11) rfl rfl Try.func13 (by kernel_rfl) rfl #[.slice A0 l0.length c0] rfl (by (try simp only [List.map_toArray, List.map_cons, List.map_nil]); first | done | rfl) ?_; (refine (few_calls A0 c0 l0 y544 _ HC0.out Ny544.out).mono ?_); rintro e w' ⟨rfl, rfl⟩; refine ⟨_, rfl, ?_⟩) | (go_at_call 37; (with_reducible refine (lattice_Order.calls k _ _ y544 t548 t549 _ ?side1 ?side2 A4.out).mono ?_); (case side1 => repeat (first | exact (Kd.C_below HR547.out HB.out) | (with_reducible refine Kd.C_alloc ?_ _) | (with_reducible refine Kd.C_drewN ?_ _) | (with_reducible refine Kd.C_drew ?_))); (case side2 => exact HC547.out); rintro e w8 ⟨v550, rfl, ho0, hb⟩; have n0_ := Aside0.mk (Kd.R_lower ho0 (below_size (stb HB))); have n1_ := Aside0.mk (below_step (stb HB) hb); clear HB; have HO551 := n0_; have HB := n1_; clear n0_ n1_; (try clear hb); (try clear hb2); (try clear hk); (try clear hi); (try clear ho0))); try go_wp2_with (first | (go_at_call 12; (with_reducible refine (rampartlaw02_awake.calls k  true _ A2.out).mono ?_); rintro e w6 ⟨rfl, hb⟩; have n0_ := Aside0.mk (below_step (stb HB) hb); clear HB; have HB := n0_; clear n0_; (try clear hb); (try clear hb2); (try clear hk); (try clear hi); have HR547 := Aside0.mk (few_cut 17 HR0.out Ny544.out); have HC547 := Aside0.mk (few_cap 17 HC0.out Ny544.out)) | ((with_reducible refine gate_callee (f := 13) rfl ?_); refine goesL_ (some 11) rfl rfl Try.func13 (by kernel_rfl) rfl #[.slice A0 l0.length c0] rfl (by (try simp only [List.map_toArray, List.map_cons, List.map_nil]); first | done | rfl) ?_; (refine (few_calls A0 c0 l0 y544 _ HC0.out Ny544.out).mono ?_); rintro e w' ⟨rfl, rfl⟩; refine ⟨_, rfl, ?_⟩) | (go_at_call 37; (with_reducible refine (lattice_Order.calls k _ _ y544 t548 t549 _ ?side1 ?side2 A4.out).mono ?_); (case side1 => repeat (first | exact (Kd.C_below HR547.out HB.out) | (with_reducible refine Kd.C_alloc ?_ _) | (with_reducible refine Kd.C_drewN ?_ _) | (with_reducible refine Kd.C_drew ?_))); (case side2 => exact HC547.out); rintro e w8 ⟨v550, rfl, ho0, hb⟩; have n0_ := Aside0.mk (Kd.R_lower ho0 (below_size (stb HB))); have n1_ := Aside0.mk (below_step (stb HB) hb); clear HB; have HO551 := n0_; have HB := n1_; clear n0_ n1_; (try clear hb); (try clear hb2); (try clear hk); (try clear hi); (try clear ho0))))
   go_loopg [5, 6] k (fun kq v5 v6 w' => ∃ (x5_1 : Int) (x6_1 : Int), v5 = .int .u64 x5_1 ∧ v6 = .int .i64 x6_1 ∧ Aside0 (rampartlaw02_LatticeOrder.l0 kq y544 t548 x5_1 x6_1 = some r) ∧ Aside0 (kq ≤ k) ∧ Aside0 (Kd.R (Kd.int .i64) 3 w' w.heap.size (fun _ => True) v550 t548) ∧ Aside0 (Below w.heap.size w w'))
   case atStart => exact ⟨(0), (0), (by first | rfl | (simp; done) | (simp [*]; done)), (by first | rfl | (simp; done) | (simp [*]; done)), H', ⟨Nat.le_refl _⟩, ⟨by (with_reducible repeat (first | apply Kd.R_alloc | apply Kd.R_drewN | apply Kd.R_drew)); exact HO551.out⟩, ⟨stb HB⟩⟩
   case round =>
    clear H'
    try clear c1
    try clear p2
    try clear c3
    try clear c5
    try clear c5b0
    try clear c5b1
    obtain ⟨x5_1, x6_1, rfl, rfl, HA, HK1, HO_3, HB⟩ := hrel
    cases gk with
    | zero => exact absurd HA.out (by simp [rampartlaw02_LatticeOrder.l0])
    | succ k1 =>
     have H := HA.out
     clear HA
     simp only [rampartlaw02_LatticeOrder.l0] at H
     by_cases c9 : x6_1 < (t548.length : Int)
     ·rw [if_pos c9] at H
      have c9b0 : decide (x6_1 < (t548.length : Int)) = true := decide_eq_true c9
      clear c9
      by_cases c10 : 0 ≤ x6_1
      ·rw [if_pos c10] at H
       have c10b0 : decide (0 ≤ x6_1) = true := decide_eq_true c10
       clear c10
       by_cases c11 : (rd t548 x6_1) < 0
       ·rw [if_pos c11] at H
        have c11b0 : decide ((rd t548 x6_1) < 0) = true := decide_eq_true c11
        clear c11
        obtain rfl := Option.some.inj H
        obtain ⟨Ao12, co12, eo12⟩ := Kd.R_slice HO_3.out
        subst eo12
        have p552 : 0 ≤ (x6_1 : Int) := of_decide_eq_true (by first | (with_reducible assumption) | assumption)
        have q552 : x6_1 < (t548.length : Int) := of_decide_eq_true (by first | (with_reducible assumption) | assumption)
        obtain ⟨ad552, e552, hx552_0⟩ := Kd.at_int (Kd.R_reads' HO_3.out).2.2 x6_1 p552 q552
        cases e552
        replace p552 := eq_true p552
        replace q552 := eq_true q552
        go_wp2
        repeat (go_quiet (fail); try go_wp2)
        go_ret
        exact ⟨by first | rfl | (simp [*, errW_none, errW_some] <;> rfl), stb HB⟩
       ·rw [if_neg c11] at H
        have c11b0 : decide ((rd t548 x6_1) < 0) = false := decide_eq_false c11
        clear c11
        by_cases c13 : (rd t548 x6_1) ≥ (y544.length : Int)
        ·rw [if_pos c13] at H
         have c13b0 : decide ((y544.length : Int) ≤ (rd t548 x6_1)) = true := decide_eq_true c13
         clear c13
         obtain rfl := Option.some.inj H
         obtain ⟨Ao14, co14, eo14⟩ := Kd.R_slice HO_3.out
         subst eo14
         have p552 : 0 ≤ (x6_1 : Int) := of_decide_eq_true (by first | (with_reducible assumption) | assumption)
         have q552 : x6_1 < (t548.length : Int) := of_decide_eq_true (by first | (with_reducible assumption) | assumption)
         obtain ⟨ad552, e552, hx552_0⟩ := Kd.at_int (Kd.R_reads' HO_3.out).2.2 x6_1 p552 q552
         cases e552
         replace p552 := eq_true p552
         replace q552 := eq_true q552
         have p553 : 0 ≤ (x6_1 : Int) := of_decide_eq_true (by first | (with_reducible assumption) | assumption)
         have q553 : x6_1 < (t548.length : Int) := of_decide_eq_true (by first | (with_reducible assumption) | assumption)
         obtain ⟨ad553, e553, hx553_0⟩ := Kd.at_int (Kd.R_reads' HO_3.out).2.2 x6_1 p553 q553
         obtain rfl : ad552 = ad553 := (by injection e553)
         replace p553 := eq_true p553
         replace q553 := eq_true q553
         go_wp2
         repeat (go_quiet (fail); try go_wp2)
         go_ret
         exact ⟨by first | rfl | (simp [*, errW_none, errW_some] <;> rfl), stb HB⟩
        ·rw [if_neg c13] at H
         have c13b0 : decide ((y544.length : Int) ≤ (rd t548 x6_1)) = false := decide_eq_false c13
         clear c13
         replace H := Option.bind_eq_some_iff.mp H
         obtain ⟨t555, A150, H⟩ := H
         replace H : (if t555 = true then (some false) else (rampartlaw02_LatticeOrder.l1 k1 y544 t548 x5_1 x6_1 0)) = some r := H
         have A15 := Aside0.mk A150
         clear A150
         by_cases c16 : t555 = true
         ·subst c16
          have H1 : (some false) = some r := by rw [if_pos rfl] at H; exact H
          clear H
          have H := H1
          clear H1
          obtain rfl := Option.some.inj H
          obtain ⟨Ao17, co17, eo17⟩ := Kd.R_slice HO_3.out
          subst eo17
          have p552 : 0 ≤ (x6_1 : Int) := of_decide_eq_true (by first | (with_reducible assumption) | assumption)
          have q552 : x6_1 < (t548.length : Int) := of_decide_eq_true (by first | (with_reducible assumption) | assumption)
          obtain ⟨ad552, e552, hx552_0⟩ := Kd.at_int (Kd.R_reads' HO_3.out).2.2 x6_1 p552 q552
          cases e552
          replace p552 := eq_true p552
          replace q552 := eq_true q552
          have p553 : 0 ≤ (x6_1 : Int) := of_decide_eq_true (by first | (with_reducible assumption) | assumption)
          have q553 : x6_1 < (t548.length : Int) := of_decide_eq_true (by first | (with_reducible assumption) | assumption)
          obtain ⟨ad553, e553, hx553_0⟩ := Kd.at_int (Kd.R_reads' HO_3.out).2.2 x6_1 p553 q553
          obtain rfl : ad552 = ad553 := (by injection e553)
          replace p553 := eq_true p553
          replace q553 := eq_true q553
          have p554 : 0 ≤ (x6_1 : Int) := of_decide_eq_true (by first | (with_reducible assumption) | assumption)
          have q554 : x6_1 < (t548.length : Int) := of_decide_eq_true (by first | (with_reducible assumption) | assumption)
          obtain ⟨ad554, e554, hx554_0⟩ := Kd.at_int (Kd.R_reads' HO_3.out).2.2 x6_1 p554 q554
          obtain rfl : ad552 = ad554 := (by injection e554)
          replace p554 := eq_true p554
          replace q554 := eq_true q554
          go_wp2_with (first | (go_at_call 22; (with_reducible refine (rampartref01_Has.calls k1 x5_1 (rd t548 x6_1) true _ A15.out).mono ?_); rintro e w' ⟨rfl, ⟨nd, rfl⟩⟩; (try first | exact ⟨rfl, _, World.drewN_drewN _ _ _⟩ | exact ⟨rfl, _, Eq.trans (World.drewN_drewN _ _ _) (congrArg (World.drewN _) (Nat.add_assoc _ _ _))⟩)))
          repeat (go_quiet (first | (go_at_call 22; (with_reducible refine (rampartref01_Has.calls k1 x5_1 (rd t548 x6_1) true _ A15.out).mono ?_); rintro e w' ⟨rfl, ⟨nd, rfl⟩⟩; (try first | exact ⟨rfl, _, World.drewN_drewN _ _ _⟩ | exact ⟨rfl, _, Eq.trans (World.drewN_drewN _ _ _) (congrArg (World.drewN _) (Nat.add_assoc _ _ _))⟩))); try go_wp2_with (first | (go_at_call 22; (with_reducible refine (rampartref01_Has.calls k1 x5_1 (rd t548 x6_1) true _ A15.out).mono ?_); rintro e w' ⟨rfl, ⟨nd, rfl⟩⟩; (try first | exact ⟨rfl, _, World.drewN_drewN _ _ _⟩ | exact ⟨rfl, _, Eq.trans (World.drewN_drewN _ _ _) (congrArg (World.drewN _) (Nat.add_assoc _ _ _))⟩))))
          go_ret
          exact ⟨by first | rfl | (simp [*, errW_none, errW_some] <;> rfl), stb HB⟩
         ·replace c16 := Bool.eq_false_iff.mpr c16
          subst c16
          have H1 : (rampartlaw02_LatticeOrder.l1 k1 y544 t548 x5_1 x6_1 0) = some r := by rw [if_neg (show ¬ (false = true) by decide)] at H; exact H
          clear H
          have H := H1
          clear H1
          have H' := Aside0.mk H
          clear H
          obtain ⟨Ao18, co18, eo18⟩ := Kd.R_slice HO_3.out
          subst eo18
          have p552 : 0 ≤ (x6_1 : Int) := of_decide_eq_true (by first | (with_reducible assumption) | assumption)
          have q552 : x6_1 < (t548.length : Int) := of_decide_eq_true (by first | (with_reducible assumption) | assumption)
          obtain ⟨ad552, e552, hx552_0⟩ := Kd.at_int (Kd.R_reads' HO_3.out).2.2 x6_1 p552 q552
          cases e552
          replace p552 := eq_true p552
          replace q552 := eq_true q552
          have p553 : 0 ≤ (x6_1 : Int) := of_decide_eq_true (by first | (with_reducible assumption) | assumption)
          have q553 : x6_1 < (t548.length : Int) := of_decide_eq_true (by first | (with_reducible assumption) | assumption)
          obtain ⟨ad553, e553, hx553_0⟩ := Kd.at_int (Kd.R_reads' HO_3.out).2.2 x6_1 p553 q553
          obtain rfl : ad552 = ad553 := (by injection e553)
          replace p553 := eq_true p553
          replace q553 := eq_true q553
          have p554 : 0 ≤ (x6_1 : Int) := of_decide_eq_true (by first | (with_reducible assumption) | assumption)
          have q554 : x6_1 < (t548.length : Int) := of_decide_eq_true (by first | (with_reducible assumption) | assumption)
          obtain ⟨ad554, e554, hx554_0⟩ := Kd.at_int (Kd.R_reads' HO_3.out).2.2 x6_1 p554 q554
          obtain rfl : ad552 = ad554 := (by injection e554)
          replace p554 := eq_true p554
          replace q554 := eq_true q554
          go_wp2_with (first | (go_at_call 22; (with_reducible refine (rampartref01_Has.calls k1 x5_1 (rd t548 x6_1) false _ A15.out).mono ?_); rintro e w' ⟨rfl, ⟨nd, rfl⟩⟩; (try first | exact ⟨rfl, _, World.drewN_drewN _ _ _⟩ | exact ⟨rfl, _, Eq.trans (World.drewN_drewN _ _ _) (congrArg (World.drewN _) (Nat.add_assoc _ _ _))⟩)))
          repeat (go_quiet (first | (go_at_call 22; (with_reducible refine (rampartref01_Has.calls k1 x5_1 (rd t548 x6_1) false _ A15.out).mono ?_); rintro e w' ⟨rfl, ⟨nd, rfl⟩⟩; (try first | exact ⟨rfl, _, World.drewN_drewN _ _ _⟩ | exact ⟨rfl, _, Eq.trans (World.drewN_drewN _ _ _) (congrArg (World.drewN _) (Nat.add_assoc _ _ _))⟩))); try go_wp2_with (first | (go_at_call 22; (with_reducible refine (rampartref01_Has.calls k1 x5_1 (rd t548 x6_1) false _ A15.out).mono ?_); rintro e w' ⟨rfl, ⟨nd, rfl⟩⟩; (try first | exact ⟨rfl, _, World.drewN_drewN _ _ _⟩ | exact ⟨rfl, _, Eq.trans (World.drewN_drewN _ _ _) (congrArg (World.drewN _) (Nat.add_assoc _ _ _))⟩))))
          go_loopg [7] k1 (fun kq v7 w' => ∃ (x7_2 : Int), v7 = .int .i64 x7_2 ∧ Aside0 (rampartlaw02_LatticeOrder.l1 kq y544 t548 x5_1 x6_1 x7_2 = some r) ∧ Aside0 (kq ≤ k1) ∧ Aside0 (Kd.R (Kd.int .i64) 3 w' w.heap.size (fun _ => True) (.slice (some ad552) t548.length co18) t548) ∧ Aside0 (Below w.heap.size w w'))
          case atStart => exact ⟨(0), (by first | rfl | (simp; done) | (simp [*]; done)), H', ⟨Nat.le_refl _⟩, ⟨by (with_reducible repeat (first | apply Kd.R_alloc | apply Kd.R_drewN | apply Kd.R_drew)); exact HO_3.out⟩, ⟨stb HB⟩⟩
          case round =>
           clear H'
           try clear c1
           try clear p2
           try clear c3
           try clear c5
           try clear c5b0
           try clear c5b1
           try clear p5
           try clear q5
           try clear hx5
           try clear c9
           try clear c9b0
           try clear c10
           try clear c10b0
           try clear c11
           try clear c11b0
           try clear c13
           try clear c13b0
           try clear c16
           try clear hx552_0
           try clear hx553_0
           try clear hx554_0
           try clear p2
           try clear p552
           try clear p553
           try clear p554
           try clear q552
           try clear q553
           try clear q554
           obtain ⟨x7_2, rfl, HA, HK2, HO_3, HB⟩ := hrel
           cases gk with
           | zero => exact absurd HA.out (by simp [rampartlaw02_LatticeOrder.l1])
           | succ k2 =>
            have H := HA.out
            clear HA
            simp only [rampartlaw02_LatticeOrder.l1] at H
            by_cases c19 : x7_2 < (y544.length : Int)
            ·rw [if_pos c19] at H
             have c19b0 : decide (x7_2 < (y544.length : Int)) = true := decide_eq_true c19
             clear c19
             by_cases c20 : 0 ≤ x7_2
             ·rw [if_pos c20] at H
              have c20b0 : decide (0 ≤ x7_2) = true := decide_eq_true c20
              clear c20
              by_cases c21 : 0 ≤ x6_1
              ·rw [if_pos c21] at H
               have c21b0 : decide (0 ≤ x6_1) = true := decide_eq_true c21
               clear c21
               by_cases c22 : x6_1 < (t548.length : Int)
               ·rw [if_pos c22] at H
                have c22b0 : decide (x6_1 < (t548.length : Int)) = true := decide_eq_true c22
                clear c22
                replace H := Option.bind_eq_some_iff.mp H
                obtain ⟨t558, A230, H⟩ := H
                replace H : (if t558 = true then (if 0 ≤ (rd t548 x6_1) then (if (rd t548 x6_1) < (y544.length : Int) then ((rampartref01_Has.f k2 (rd y544 (rd t548 x6_1)) x7_2).bind fun t561 => (if t561 = true then (rampartlaw02_LatticeOrder.l1 k2 y544 t548 x5_1 x6_1 (wrap64 (x7_2 + 1))) else ((rampartref01_Has.f k2 x5_1 x7_2).bind fun t562 => (if t562 = true then (rampartlaw02_LatticeOrder.l1 k2 y544 t548 x5_1 x6_1 (wrap64 (x7_2 + 1))) else (some false))))) else (none)) else (none)) else (rampartlaw02_LatticeOrder.l1 k2 y544 t548 x5_1 x6_1 (wrap64 (x7_2 + 1)))) = some r := H
                have A23 := Aside0.mk A230
                clear A230
                by_cases c24 : t558 = true
                ·subst c24
                 have H1 : (if 0 ≤ (rd t548 x6_1) then (if (rd t548 x6_1) < (y544.length : Int) then ((rampartref01_Has.f k2 (rd y544 (rd t548 x6_1)) x7_2).bind fun t561 => (if t561 = true then (rampartlaw02_LatticeOrder.l1 k2 y544 t548 x5_1 x6_1 (wrap64 (x7_2 + 1))) else ((rampartref01_Has.f k2 x5_1 x7_2).bind fun t562 => (if t562 = true then (rampartlaw02_LatticeOrder.l1 k2 y544 t548 x5_1 x6_1 (wrap64 (x7_2 + 1))) else (some false))))) else (none)) else (none)) = some r := by rw [if_pos rfl] at H; exact H
                 clear H
                 have H := H1
                 clear H1
                 by_cases c25 : 0 ≤ (rd t548 x6_1)
                 ·rw [if_pos c25] at H
                  have c25b0 : decide (0 ≤ (rd t548 x6_1)) = true := decide_eq_true c25
                  clear c25
                  by_cases c26 : (rd t548 x6_1) < (y544.length : Int)
                  ·rw [if_pos c26] at H
                   have c26b0 : decide ((rd t548 x6_1) < (y544.length : Int)) = true := decide_eq_true c26
                   clear c26
                   replace H := Option.bind_eq_some_iff.mp H
                   obtain ⟨t561, A270, H⟩ := H
                   replace H : (if t561 = true then (rampartlaw02_LatticeOrder.l1 k2 y544 t548 x5_1 x6_1 (wrap64 (x7_2 + 1))) else ((rampartref01_Has.f k2 x5_1 x7_2).bind fun t562 => (if t562 = true then (rampartlaw02_LatticeOrder.l1 k2 y544 t548 x5_1 x6_1 (wrap64 (x7_2 + 1))) else (some false)))) = some r := H
                   have A27 := Aside0.mk A270
                   clear A270
                   by_cases c28 : t561 = true
                   ·subst c28
                    have H1 : (rampartlaw02_LatticeOrder.l1 k2 y544 t548 x5_1 x6_1 (wrap64 (x7_2 + 1))) = some r := by rw [if_pos rfl] at H; exact H
                    clear H
                    have H := H1
                    clear H1
                    have H' := Aside0.mk H
                    clear H
                    have p556 : 0 ≤ (x7_2 : Int) := of_decide_eq_true (by first | (with_reducible assumption) | assumption)
                    have q556 : x7_2 < (y544.length : Int) := of_decide_eq_true (by first | (with_reducible assumption) | assumption)
                    obtain ⟨ad556, e556, hx556_0⟩ := Kd.at_int HR547.out x7_2 p556 q556
                    cases e556
                    replace hx556_0 := (HB.out.cell (World.block_lt_of_cell? w _ hx556_0)).trans hx556_0
                    replace p556 := eq_true p556
                    replace q556 := eq_true q556
                    have p557 : 0 ≤ (x6_1 : Int) := of_decide_eq_true (by first | (with_reducible assumption) | assumption)
                    have q557 : x6_1 < (t548.length : Int) := of_decide_eq_true (by first | (with_reducible assumption) | assumption)
                    obtain ⟨ad557, e557, hx557_0⟩ := Kd.at_int (Kd.R_reads' HO_3.out).2.2 x6_1 p557 q557
                    obtain rfl : ad552 = ad557 := (by injection e557)
                    replace p557 := eq_true p557
                    replace q557 := eq_true q557
                    go_wp2_with (first | (go_at_call 22; (with_reducible refine (rampartref01_Has.calls k2 (rd y544 x7_2) (rd t548 x6_1) true _ A23.out).mono ?_); rintro e w' ⟨rfl, ⟨nd, rfl⟩⟩; (try first | exact ⟨rfl, _, World.drewN_drewN _ _ _⟩ | exact ⟨rfl, _, Eq.trans (World.drewN_drewN _ _ _) (congrArg (World.drewN _) (Nat.add_assoc _ _ _))⟩); have p559 : 0 ≤ (x6_1 : Int) := of_decide_eq_true (by first | (with_reducible assumption) | assumption); have q559 : x6_1 < (t548.length : Int) := of_decide_eq_true (by first | (with_reducible assumption) | assumption); obtain ⟨ad559, e559, hx559_0⟩ := Kd.at_int (Kd.R_reads' HO_3.out).2.2 x6_1 p559 q559; obtain rfl : ad552 = ad559 := (by injection e559); replace p559 := eq_true p559; replace q559 := eq_true q559; have p560 : 0 ≤ ((rd t548 x6_1) : Int) := of_decide_eq_true (by first | (with_reducible assumption) | assumption); have q560 : (rd t548 x6_1) < (y544.length : Int) := of_decide_eq_true (by first | (with_reducible assumption) | assumption); obtain ⟨ad560, e560, hx560_0⟩ := Kd.at_int HR547.out (rd t548 x6_1) p560 q560; obtain rfl : ad556 = ad560 := (by injection e560); replace hx560_0 := (HB.out.cell (World.block_lt_of_cell? w _ hx560_0)).trans hx560_0; replace p560 := eq_true p560; replace q560 := eq_true q560) | (go_at_call 22; (with_reducible refine (rampartref01_Has.calls k2 (rd y544 (rd t548 x6_1)) x7_2 true _ A27.out).mono ?_); rintro e w' ⟨rfl, ⟨nd, rfl⟩⟩; (try first | exact ⟨rfl, _, World.drewN_drewN _ _ _⟩ | exact ⟨rfl, _, Eq.trans (World.drewN_drewN _ _ _) (congrArg (World.drewN _) (Nat.add_assoc _ _ _))⟩)))
                    repeat (go_quiet (first | (go_at_call 22; (with_reducible refine (rampartref01_Has.calls k2 (rd y544 x7_2) (rd t548 x6_1) true _ A23.out).mono ?_); rintro e w' ⟨rfl, ⟨nd, rfl⟩⟩; (try first | exact ⟨rfl, _, World.drewN_drewN _ _ _⟩ | exact ⟨rfl, _, Eq.trans (World.drewN_drewN _ _ _) (congrArg (World.drewN _) (Nat.add_assoc _ _ _))⟩); have p559 : 0 ≤ (x6_1 : Int) := of_decide_eq_true (by first | (with_reducible assumption) | assumption); have q559 : x6_1 < (t548.length : Int) := of_decide_eq_true (by first | (with_reducible assumption) | assumption); obtain ⟨ad559, e559, hx559_0⟩ := Kd.at_int (Kd.R_reads' HO_3.out).2.2 x6_1 p559 q559; obtain rfl : ad552 = ad559 := (by injection e559); replace p559 := eq_true p559; replace q559 := eq_true q559; have p560 : 0 ≤ ((rd t548 x6_1) : Int) := of_decide_eq_true (by first | (with_reducible assumption) | assumption); have q560 : (rd t548 x6_1) < (y544.length : Int) := of_decide_eq_true (by first | (with_reducible assumption) | assumption); obtain ⟨ad560, e560, hx560_0⟩ := Kd.at_int HR547.out (rd t548 x6_1) p560 q560; obtain rfl : ad556 = ad560 := (by injection e560); replace hx560_0 := (HB.out.cell (World.block_lt_of_cell? w _ hx560_0)).trans hx560_0; replace p560 := eq_true p560; replace q560 := eq_true q560) | (go_at_call 22; (with_reducible refine (rampartref01_Has.calls k2 (rd y544 (rd t548 x6_1)) x7_2 true _ A27.out).mono ?_); rintro e w' ⟨rfl, ⟨nd, rfl⟩⟩; (try first | exact ⟨rfl, _, World.drewN_drewN _ _ _⟩ | exact ⟨rfl, _, Eq.trans (World.drewN_drewN _ _ _) (congrArg (World.drewN _) (Nat.add_assoc _ _ _))⟩))); try go_wp2_with (first | (go_at_call 22; (with_reducible refine (rampartref01_Has.calls k2 (rd y544 x7_2) (rd t548 x6_1) true _ A23.out).mono ?_); rintro e w' ⟨rfl, ⟨nd, rfl⟩⟩; (try first | exact ⟨rfl, _, World.drewN_drewN _ _ _⟩ | exact ⟨rfl, _, Eq.trans (World.drewN_drewN _ _ _) (congrArg (World.drewN _) (Nat.add_assoc _ _ _))⟩); have p559 : 0 ≤ (x6_1 : Int) := of_decide_eq_true (by first | (with_reducible assumption) | assumption); have q559 : x6_1 < (t548.length : Int) := of_decide_eq_true (by first | (with_reducible assumption) | assumption); obtain ⟨ad559, e559, hx559_0⟩ := Kd.at_int (Kd.R_reads' HO_3.out).2.2 x6_1 p559 q559; obtain rfl : ad552 = ad559 := (by injection e559); replace p559 := eq_true p559; replace q559 := eq_true q559; have p560 : 0 ≤ ((rd t548 x6_1) : Int) := of_decide_eq_true (by first | (with_reducible assumption) | assumption); have q560 : (rd t548 x6_1) < (y544.length : Int) := of_decide_eq_true (by first | (with_reducible assumption) | assumption); obtain ⟨ad560, e560, hx560_0⟩ := Kd.at_int HR547.out (rd t548 x6_1) p560 q560; obtain rfl : ad556 = ad560 := (by injection e560); replace hx560_0 := (HB.out.cell (World.block_lt_of_cell? w _ hx560_0)).trans hx560_0; replace p560 := eq_true p560; replace q560 := eq_true q560) | (go_at_call 22; (with_reducible refine (rampartref01_Has.calls k2 (rd y544 (rd t548 x6_1)) x7_2 true _ A27.out).mono ?_); rintro e w' ⟨rfl, ⟨nd, rfl⟩⟩; (try first | exact ⟨rfl, _, World.drewN_drewN _ _ _⟩ | exact ⟨rfl, _, Eq.trans (World.drewN_drewN _ _ _) (congrArg (World.drewN _) (Nat.add_assoc _ _ _))⟩))))
                    go_roundg k2
                    case measure => have := HK1.out; have := HK2.out; omega
                    case rel => exact ⟨(wrap64 (x7_2 + 1)), (by first | rfl | (simp; done) | (simp [*]; done)), H', ⟨by have := HK1.out; have := HK2.out; omega⟩, ⟨by (with_reducible repeat (first | apply Kd.R_alloc | apply Kd.R_drewN | apply Kd.R_drew)); exact HO_3.out⟩, ⟨stb HB⟩⟩
                   ·replace c28 := Bool.eq_false_iff.mpr c28
                    subst c28
                    have H1 : ((rampartref01_Has.f k2 x5_1 x7_2).bind fun t562 => (if t562 = true then (rampartlaw02_LatticeOrder.l1 k2 y544 t548 x5_1 x6_1 (wrap64 (x7_2 + 1))) else (some false))) = some r := by rw [if_neg (show ¬ (false = true) by decide)] at H; exact H
                    clear H
                    have H := H1
                    clear H1
                    replace H := Option.bind_eq_some_iff.mp H
                    obtain ⟨t562, A290, H⟩ := H
                    replace H : (if t562 = true then (rampartlaw02_LatticeOrder.l1 k2 y544 t548 x5_1 x6_1 (wrap64 (x7_2 + 1))) else (some false)) = some r := H
                    have A29 := Aside0.mk A290
                    clear A290
                    by_cases c30 : t562 = true
                    ·subst c30
                     have H1 : (rampartlaw02_LatticeOrder.l1 k2 y544 t548 x5_1 x6_1 (wrap64 (x7_2 + 1))) = some r := by rw [if_pos rfl] at H; exact H
                     clear H
                     have H := H1
                     clear H1
                     have H' := Aside0.mk H
                     clear H
                     have p556 : 0 ≤ (x7_2 : Int) := of_decide_eq_true (by first | (with_reducible assumption) | assumption)
                     have q556 : x7_2 < (y544.length : Int) := of_decide_eq_true (by first | (with_reducible assumption) | assumption)
                     obtain ⟨ad556, e556, hx556_0⟩ := Kd.at_int HR547.out x7_2 p556 q556
                     cases e556
                     replace hx556_0 := (HB.out.cell (World.block_lt_of_cell? w _ hx556_0)).trans hx556_0
                     replace p556 := eq_true p556
                     replace q556 := eq_true q556
                     have p557 : 0 ≤ (x6_1 : Int) := of_decide_eq_true (by first | (with_reducible assumption) | assumption)
                     have q557 : x6_1 < (t548.length : Int) := of_decide_eq_true (by first | (with_reducible assumption) | assumption)
                     obtain ⟨ad557, e557, hx557_0⟩ := Kd.at_int (Kd.R_reads' HO_3.out).2.2 x6_1 p557 q557
                     obtain rfl : ad552 = ad557 := (by injection e557)
                     replace p557 := eq_true p557
                     replace q557 := eq_true q557
                     go_wp2_with (first | (go_at_call 22; (with_reducible refine (rampartref01_Has.calls k2 (rd y544 x7_2) (rd t548 x6_1) true _ A23.out).mono ?_); rintro e w' ⟨rfl, ⟨nd, rfl⟩⟩; (try first | exact ⟨rfl, _, World.drewN_drewN _ _ _⟩ | exact ⟨rfl, _, Eq.trans (World.drewN_drewN _ _ _) (congrArg (World.drewN _) (Nat.add_assoc _ _ _))⟩); have p559 : 0 ≤ (x6_1 : Int) := of_decide_eq_true (by first | (with_reducible assumption) | assumption); have q559 : x6_1 < (t548.length : Int) := of_decide_eq_true (by first | (with_reducible assumption) | assumption); obtain ⟨ad559, e559, hx559_0⟩ := Kd.at_int (Kd.R_reads' HO_3.out).2.2 x6_1 p559 q559; obtain rfl : ad552 = ad559 := (by injection e559); replace p559 := eq_true p559; replace q559 := eq_true q559; have p560 : 0 ≤ ((rd t548 x6_1) : Int) := of_decide_eq_true (by first | (with_reducible assumption) | assumption); have q560 : (rd t548 x6_1) < (y544.length : Int) := of_decide_eq_true (by first | (with_reducible assumption) | assumption); obtain ⟨ad560, e560, hx560_0⟩ := Kd.at_int HR547.out (rd t548 x6_1) p560 q560; obtain rfl : ad556 = ad560 := (by injection e560); replace hx560_0 := (HB.out.cell (World.block_lt_of_cell? w _ hx560_0)).trans hx560_0; replace p560 := eq_true p560; replace q560 := eq_true q560) | (go_at_call 22; (with_reducible refine (rampartref01_Has.calls k2 (rd y544 (rd t548 x6_1)) x7_2 false _ A27.out).mono ?_); rintro e w' ⟨rfl, ⟨nd, rfl⟩⟩; (try first | exact ⟨rfl, _, World.drewN_drewN _ _ _⟩ | exact ⟨rfl, _, Eq.trans (World.drewN_drewN _ _ _) (congrArg (World.drewN _) (Nat.add_assoc _ _ _))⟩)) | (go_at_call 22; (with_reducible refine (rampartref01_Has.calls k2 x5_1 x7_2 true _ A29.out).mono ?_); rintro e w' ⟨rfl, ⟨nd, rfl⟩⟩; (try first | exact ⟨rfl, _, World.drewN_drewN _ _ _⟩ | exact ⟨rfl, _, Eq.trans (World.drewN_drewN _ _ _) (congrArg (World.drewN _) (Nat.add_assoc _ _ _))⟩)))
                     repeat (go_quiet (first | (go_at_call 22; (with_reducible refine (rampartref01_Has.calls k2 (rd y544 x7_2) (rd t548 x6_1) true _ A23.out).mono ?_); rintro e w' ⟨rfl, ⟨nd, rfl⟩⟩; (try first | exact ⟨rfl, _, World.drewN_drewN _ _ _⟩ | exact ⟨rfl, _, Eq.trans (World.drewN_drewN _ _ _) (congrArg (World.drewN _) (Nat.add_assoc _ _ _))⟩); have p559 : 0 ≤ (x6_1 : Int) := of_decide_eq_true (by first | (with_reducible assumption) | assumption); have q559 : x6_1 < (t548.length : Int) := of_decide_eq_true (by first | (with_reducible assumption) | assumption); obtain ⟨ad559, e559, hx559_0⟩ := Kd.at_int (Kd.R_reads' HO_3.out).2.2 x6_1 p559 q559; obtain rfl : ad552 = ad559 := (by injection e559); replace p559 := eq_true p559; replace q559 := eq_true q559; have p560 : 0 ≤ ((rd t548 x6_1) : Int) := of_decide_eq_true (by first | (with_reducible assumption) | assumption); have q560 : (rd t548 x6_1) < (y544.length : Int) := of_decide_eq_true (by first | (with_reducible assumption) | assumption); obtain ⟨ad560, e560, hx560_0⟩ := Kd.at_int HR547.out (rd t548 x6_1) p560 q560; obtain rfl : ad556 = ad560 := (by injection e560); replace hx560_0 := (HB.out.cell (World.block_lt_of_cell? w _ hx560_0)).trans hx560_0; replace p560 := eq_true p560; replace q560 := eq_true q560) | (go_at_call 22; (with_reducible refine (rampartref01_Has.calls k2 (rd y544 (rd t548 x6_1)) x7_2 false _ A27.out).mono ?_); rintro e w' ⟨rfl, ⟨nd, rfl⟩⟩; (try first | exact ⟨rfl, _, World.drewN_drewN _ _ _⟩ | exact ⟨rfl, _, Eq.trans (World.drewN_drewN _ _ _) (congrArg (World.drewN _) (Nat.add_assoc _ _ _))⟩)) | (go_at_call 22; (with_reducible refine (rampartref01_Has.calls k2 x5_1 x7_2 true _ A29.out).mono ?_); rintro e w' ⟨rfl, ⟨nd, rfl⟩⟩; (try first | exact ⟨rfl, _, World.drewN_drewN _ _ _⟩ | exact ⟨rfl, _, Eq.trans (World.drewN_drewN _ _ _) (congrArg (World.drewN _) (Nat.add_assoc _ _ _))⟩))); try go_wp2_with (first | (go_at_call 22; (with_reducible refine (rampartref01_Has.calls k2 (rd y544 x7_2) (rd t548 x6_1) true _ A23.out).mono ?_); rintro e w' ⟨rfl, ⟨nd, rfl⟩⟩; (try first | exact ⟨rfl, _, World.drewN_drewN _ _ _⟩ | exact ⟨rfl, _, Eq.trans (World.drewN_drewN _ _ _) (congrArg (World.drewN _) (Nat.add_assoc _ _ _))⟩); have p559 : 0 ≤ (x6_1 : Int) := of_decide_eq_true (by first | (with_reducible assumption) | assumption); have q559 : x6_1 < (t548.length : Int) := of_decide_eq_true (by first | (with_reducible assumption) | assumption); obtain ⟨ad559, e559, hx559_0⟩ := Kd.at_int (Kd.R_reads' HO_3.out).2.2 x6_1 p559 q559; obtain rfl : ad552 = ad559 := (by injection e559); replace p559 := eq_true p559; replace q559 := eq_true q559; have p560 : 0 ≤ ((rd t548 x6_1) : Int) := of_decide_eq_true (by first | (with_reducible assumption) | assumption); have q560 : (rd t548 x6_1) < (y544.length : Int) := of_decide_eq_true (by first | (with_reducible assumption) | assumption); obtain ⟨ad560, e560, hx560_0⟩ := Kd.at_int HR547.out (rd t548 x6_1) p560 q560; obtain rfl : ad556 = ad560 := (by injection e560); replace hx560_0 := (HB.out.cell (World.block_lt_of_cell? w _ hx560_0)).trans hx560_0; replace p560 := eq_true p560; replace q560 := eq_true q560) | (go_at_call 22; (with_reducible refine (rampartref01_Has.calls k2 (rd y544 (rd t548 x6_1)) x7_2 false _ A27.out).mono ?_); rintro e w' ⟨rfl, ⟨nd, rfl⟩⟩; (try first | exact ⟨rfl, _, World.drewN_drewN _ _ _⟩ | exact ⟨rfl, _, Eq.trans (World.drewN_drewN _ _ _) (congrArg (World.drewN _) (Nat.add_assoc _ _ _))⟩)) | (go_at_call 22; (with_reducible refine (rampartref01_Has.calls k2 x5_1 x7_2 true _ A29.out).mono ?_); rintro e w' ⟨rfl, ⟨nd, rfl⟩⟩; (try first | exact ⟨rfl, _, World.drewN_drewN _ _ _⟩ | exact ⟨rfl, _, Eq.trans (World.drewN_drewN _ _ _) (congrArg (World.drewN _) (Nat.add_assoc _ _ _))⟩))))
                     go_roundg k2
                     case measure => have := HK1.out; have := HK2.out; omega
                     case rel => exact ⟨(wrap64 (x7_2 + 1)), (by first | rfl | (simp; done) | (simp [*]; done)), H', ⟨by have := HK1.out; have := HK2.out; omega⟩, ⟨by (with_reducible repeat (first | apply Kd.R_alloc | apply Kd.R_drewN | apply Kd.R_drew)); exact HO_3.out⟩, ⟨stb HB⟩⟩
                    ·replace c30 := Bool.eq_false_iff.mpr c30
                     subst c30
                     have H1 : (some false) = some r := by rw [if_neg (show ¬ (false = true) by decide)] at H; exact H
                     clear H
                     have H := H1
                     clear H1
                     obtain rfl := Option.some.inj H
                     have p556 : 0 ≤ (x7_2 : Int) := of_decide_eq_true (by first | (with_reducible assumption) | assumption)
                     have q556 : x7_2 < (y544.length : Int) := of_decide_eq_true (by first | (with_reducible assumption) | assumption)
                     obtain ⟨ad556, e556, hx556_0⟩ := Kd.at_int HR547.out x7_2 p556 q556
                     cases e556
                     replace hx556_0 := (HB.out.cell (World.block_lt_of_cell? w _ hx556_0)).trans hx556_0
                     replace p556 := eq_true p556
                     replace q556 := eq_true q556
                     have p557 : 0 ≤ (x6_1 : Int) := of_decide_eq_true (by first | (with_reducible assumption) | assumption)
                     have q557 : x6_1 < (t548.length : Int) := of_decide_eq_true (by first | (with_reducible assumption) | assumption)
                     obtain ⟨ad557, e557, hx557_0⟩ := Kd.at_int (Kd.R_reads' HO_3.out).2.2 x6_1 p557 q557
                     obtain rfl : ad552 = ad557 := (by injection e557)
                     replace p557 := eq_true p557
                     replace q557 := eq_true q557
                     go_wp2_with (first | (go_at_call 22; (with_reducible refine (rampartref01_Has.calls k2 (rd y544 x7_2) (rd t548 x6_1) true _ A23.out).mono ?_); rintro e w' ⟨rfl, ⟨nd, rfl⟩⟩; (try first | exact ⟨rfl, _, World.drewN_drewN _ _ _⟩ | exact ⟨rfl, _, Eq.trans (World.drewN_drewN _ _ _) (congrArg (World.drewN _) (Nat.add_assoc _ _ _))⟩); have p559 : 0 ≤ (x6_1 : Int) := of_decide_eq_true (by first | (with_reducible assumption) | assumption); have q559 : x6_1 < (t548.length : Int) := of_decide_eq_true (by first | (with_reducible assumption) | assumption); obtain ⟨ad559, e559, hx559_0⟩ := Kd.at_int (Kd.R_reads' HO_3.out).2.2 x6_1 p559 q559; obtain rfl : ad552 = ad559 := (by injection e559); replace p559 := eq_true p559; replace q559 := eq_true q559; have p560 : 0 ≤ ((rd t548 x6_1) : Int) := of_decide_eq_true (by first | (with_reducible assumption) | assumption); have q560 : (rd t548 x6_1) < (y544.length : Int) := of_decide_eq_true (by first | (with_reducible assumption) | assumption); obtain ⟨ad560, e560, hx560_0⟩ := Kd.at_int HR547.out (rd t548 x6_1) p560 q560; obtain rfl : ad556 = ad560 := (by injection e560); replace hx560_0 := (HB.out.cell (World.block_lt_of_cell? w _ hx560_0)).trans hx560_0; replace p560 := eq_true p560; replace q560 := eq_true q560) | (go_at_call 22; (with_reducible refine (rampartref01_Has.calls k2 (rd y544 (rd t548 x6_1)) x7_2 false _ A27.out).mono ?_); rintro e w' ⟨rfl, ⟨nd, rfl⟩⟩; (try first | exact ⟨rfl, _, World.drewN_drewN _ _ _⟩ | exact ⟨rfl, _, Eq.trans (World.drewN_drewN _ _ _) (congrArg (World.drewN _) (Nat.add_assoc _ _ _))⟩)) | (go_at_call 22; (with_reducible refine (rampartref01_Has.calls k2 x5_1 x7_2 false _ A29.out).mono ?_); rintro e w' ⟨rfl, ⟨nd, rfl⟩⟩; (try first | exact ⟨rfl, _, World.drewN_drewN _ _ _⟩ | exact ⟨rfl, _, Eq.trans (World.drewN_drewN _ _ _) (congrArg (World.drewN _) (Nat.add_assoc _ _ _))⟩)))
                     repeat (go_quiet (first | (go_at_call 22; (with_reducible refine (rampartref01_Has.calls k2 (rd y544 x7_2) (rd t548 x6_1) true _ A23.out).mono ?_); rintro e w' ⟨rfl, ⟨nd, rfl⟩⟩; (try first | exact ⟨rfl, _, World.drewN_drewN _ _ _⟩ | exact ⟨rfl, _, Eq.trans (World.drewN_drewN _ _ _) (congrArg (World.drewN _) (Nat.add_assoc _ _ _))⟩); have p559 : 0 ≤ (x6_1 : Int) := of_decide_eq_true (by first | (with_reducible assumption) | assumption); have q559 : x6_1 < (t548.length : Int) := of_decide_eq_true (by first | (with_reducible assumption) | assumption); obtain ⟨ad559, e559, hx559_0⟩ := Kd.at_int (Kd.R_reads' HO_3.out).2.2 x6_1 p559 q559; obtain rfl : ad552 = ad559 := (by injection e559); replace p559 := eq_true p559; replace q559 := eq_true q559; have p560 : 0 ≤ ((rd t548 x6_1) : Int) := of_decide_eq_true (by first | (with_reducible assumption) | assumption); have q560 : (rd t548 x6_1) < (y544.length : Int) := of_decide_eq_true (by first | (with_reducible assumption) | assumption); obtain ⟨ad560, e560, hx560_0⟩ := Kd.at_int HR547.out (rd t548 x6_1) p560 q560; obtain rfl : ad556 = ad560 := (by injection e560); replace hx560_0 := (HB.out.cell (World.block_lt_of_cell? w _ hx560_0)).trans hx560_0; replace p560 := eq_true p560; replace q560 := eq_true q560) | (go_at_call 22; (with_reducible refine (rampartref01_Has.calls k2 (rd y544 (rd t548 x6_1)) x7_2 false _ A27.out).mono ?_); rintro e w' ⟨rfl, ⟨nd, rfl⟩⟩; (try first | exact ⟨rfl, _, World.drewN_drewN _ _ _⟩ | exact ⟨rfl, _, Eq.trans (World.drewN_drewN _ _ _) (congrArg (World.drewN _) (Nat.add_assoc _ _ _))⟩)) | (go_at_call 22; (with_reducible refine (rampartref01_Has.calls k2 x5_1 x7_2 false _ A29.out).mono ?_); rintro e w' ⟨rfl, ⟨nd, rfl⟩⟩; (try first | exact ⟨rfl, _, World.drewN_drewN _ _ _⟩ | exact ⟨rfl, _, Eq.trans (World.drewN_drewN _ _ _) (congrArg (World.drewN _) (Nat.add_assoc _ _ _))⟩))); try go_wp2_with (first | (go_at_call 22; (with_reducible refine (rampartref01_Has.calls k2 (rd y544 x7_2) (rd t548 x6_1) true _ A23.out).mono ?_); rintro e w' ⟨rfl, ⟨nd, rfl⟩⟩; (try first | exact ⟨rfl, _, World.drewN_drewN _ _ _⟩ | exact ⟨rfl, _, Eq.trans (World.drewN_drewN _ _ _) (congrArg (World.drewN _) (Nat.add_assoc _ _ _))⟩); have p559 : 0 ≤ (x6_1 : Int) := of_decide_eq_true (by first | (with_reducible assumption) | assumption); have q559 : x6_1 < (t548.length : Int) := of_decide_eq_true (by first | (with_reducible assumption) | assumption); obtain ⟨ad559, e559, hx559_0⟩ := Kd.at_int (Kd.R_reads' HO_3.out).2.2 x6_1 p559 q559; obtain rfl : ad552 = ad559 := (by injection e559); replace p559 := eq_true p559; replace q559 := eq_true q559; have p560 : 0 ≤ ((rd t548 x6_1) : Int) := of_decide_eq_true (by first | (with_reducible assumption) | assumption); have q560 : (rd t548 x6_1) < (y544.length : Int) := of_decide_eq_true (by first | (with_reducible assumption) | assumption); obtain ⟨ad560, e560, hx560_0⟩ := Kd.at_int HR547.out (rd t548 x6_1) p560 q560; obtain rfl : ad556 = ad560 := (by injection e560); replace hx560_0 := (HB.out.cell (World.block_lt_of_cell? w _ hx560_0)).trans hx560_0; replace p560 := eq_true p560; replace q560 := eq_true q560) | (go_at_call 22; (with_reducible refine (rampartref01_Has.calls k2 (rd y544 (rd t548 x6_1)) x7_2 false _ A27.out).mono ?_); rintro e w' ⟨rfl, ⟨nd, rfl⟩⟩; (try first | exact ⟨rfl, _, World.drewN_drewN _ _ _⟩ | exact ⟨rfl, _, Eq.trans (World.drewN_drewN _ _ _) (congrArg (World.drewN _) (Nat.add_assoc _ _ _))⟩)) | (go_at_call 22; (with_reducible refine (rampartref01_Has.calls k2 x5_1 x7_2 false _ A29.out).mono ?_); rintro e w' ⟨rfl, ⟨nd, rfl⟩⟩; (try first | exact ⟨rfl, _, World.drewN_drewN _ _ _⟩ | exact ⟨rfl, _, Eq.trans (World.drewN_drewN _ _ _) (congrArg (World.drewN _) (Nat.add_assoc _ _ _))⟩))))
                     go_ret
                     exact ⟨by first | rfl | (simp [*, errW_none, errW_some] <;> rfl), stb HB⟩
                  ·rw [if_neg c26] at H
                   exact absurd H (by simp)
                 ·rw [if_neg c25] at H
                  exact absurd H (by simp)
                ·replace c24 := Bool.eq_false_iff.mpr c24
                 subst c24
                 have H1 : (rampartlaw02_LatticeOrder.l1 k2 y544 t548 x5_1 x6_1 (wrap64 (x7_2 + 1))) = some r := by rw [if_neg (show ¬ (false = true) by decide)] at H; exact H
                 clear H
                 have H := H1
                 clear H1
                 have H' := Aside0.mk H
                 clear H
                 have p556 : 0 ≤ (x7_2 : Int) := of_decide_eq_true (by first | (with_reducible assumption) | assumption)
                 have q556 : x7_2 < (y544.length : Int) := of_decide_eq_true (by first | (with_reducible assumption) | assumption)
                 obtain ⟨ad556, e556, hx556_0⟩ := Kd.at_int HR547.out x7_2 p556 q556
                 cases e556
                 replace hx556_0 := (HB.out.cell (World.block_lt_of_cell? w _ hx556_0)).trans hx556_0
                 replace p556 := eq_true p556
                 replace q556 := eq_true q556
                 have p557 : 0 ≤ (x6_1 : Int) := of_decide_eq_true (by first | (with_reducible assumption) | assumption)
                 have q557 : x6_1 < (t548.length : Int) := of_decide_eq_true (by first | (with_reducible assumption) | assumption)
                 obtain ⟨ad557, e557, hx557_0⟩ := Kd.at_int (Kd.R_reads' HO_3.out).2.2 x6_1 p557 q557
                 obtain rfl : ad552 = ad557 := (by injection e557)
                 replace p557 := eq_true p557
                 replace q557 := eq_true q557
                 go_wp2_with (first | (go_at_call 22; (with_reducible refine (rampartref01_Has.calls k2 (rd y544 x7_2) (rd t548 x6_1) false _ A23.out).mono ?_); rintro e w' ⟨rfl, ⟨nd, rfl⟩⟩; (try first | exact ⟨rfl, _, World.drewN_drewN _ _ _⟩ | exact ⟨rfl, _, Eq.trans (World.drewN_drewN _ _ _) (congrArg (World.drewN _) (Nat.add_assoc _ _ _))⟩)))
                 repeat (go_quiet (first | (go_at_call 22; (with_reducible refine (rampartref01_Has.calls k2 (rd y544 x7_2) (rd t548 x6_1) false _ A23.out).mono ?_); rintro e w' ⟨rfl, ⟨nd, rfl⟩⟩; (try first | exact ⟨rfl, _, World.drewN_drewN _ _ _⟩ | exact ⟨rfl, _, Eq.trans (World.drewN_drewN _ _ _) (congrArg (World.drewN _) (Nat.add_assoc _ _ _))⟩))); try go_wp2_with (first | (go_at_call 22; (with_reducible refine (rampartref01_Has.calls k2 (rd y544 x7_2) (rd t548 x6_1) false _ A23.out).mono ?_); rintro e w' ⟨rfl, ⟨nd, rfl⟩⟩; (try first | exact ⟨rfl, _, World.drewN_drewN _ _ _⟩ | exact ⟨rfl, _, Eq.trans (World.drewN_drewN _ _ _) (congrArg (World.drewN _) (Nat.add_assoc _ _ _))⟩))))
                 go_roundg k2
                 case measure => have := HK1.out; have := HK2.out; omega
                 case rel => exact ⟨(wrap64 (x7_2 + 1)), (by first | rfl | (simp; done) | (simp [*]; done)), H', ⟨by have := HK1.out; have := HK2.out; omega⟩, ⟨by (with_reducible repeat (first | apply Kd.R_alloc | apply Kd.R_drewN | apply Kd.R_drew)); exact HO_3.out⟩, ⟨stb HB⟩⟩
               ·rw [if_neg c22] at H
                exact absurd H (by simp)
              ·rw [if_neg c21] at H
               exact absurd H (by simp)
             ·rw [if_neg c20] at H
              exact absurd H (by simp)
            ·rw [if_neg c19] at H
             have c19b0 : decide (x7_2 < (y544.length : Int)) = false := decide_eq_false c19
             clear c19
             by_cases c31 : 0 ≤ x6_1
             ·rw [if_pos c31] at H
              have c31b0 : decide (0 ≤ x6_1) = true := decide_eq_true c31
              clear c31
              by_cases c32 : x6_1 < (t548.length : Int)
              ·rw [if_pos c32] at H
               have c32b0 : decide (x6_1 < (t548.length : Int)) = true := decide_eq_true c32
               clear c32
               obtain ⟨ji33, hji33⟩ : ∃ j_ : Int, (IntKind.u64.wrap (rd t548 x6_1)) = j_ := ⟨_, rfl⟩
               replace H : (if 0 ≤ (ji33) then (rampartlaw02_LatticeOrder.l0 k2 y544 t548 (Go.bits .or .u64 x5_1 (shl .u64 1 (ji33))) (wrap64 (x6_1 + 1))) else (none)) = some r := by first | (rw [hji33] at H; exact H) | (simp only [hji33] at H ⊢; exact H)
               by_cases c34 : 0 ≤ (ji33)
               ·rw [if_pos c34] at H
                have c34b0 := eq_true c34
                have c34b1 : decide (0 ≤ (ji33)) = true := decide_eq_true c34
                clear c34
                obtain ⟨ji35, hji35⟩ : ∃ j_ : Int, (shl .u64 1 (ji33)) = j_ := ⟨_, rfl⟩
                replace H : (rampartlaw02_LatticeOrder.l0 k2 y544 t548 (Go.bits .or .u64 x5_1 (ji35)) (wrap64 (x6_1 + 1))) = some r := by first | (rw [hji35] at H; exact H) | (simp only [hji35] at H ⊢; exact H)
                have hji35_ : (IntKind.u64.wrap (1 * 2 ^ min (ji33).toNat 64)) = ji35 := hji35
                have hji35z : (ji33) ≤ 64 → (IntKind.u64.wrap (1 * 2 ^ (ji33).toNat)) = ji35 := shl_small hji35
                have hji35u : (IntKind.u64.wrap (2 ^ min (ji33).toNat 64)) = ji35 := by have h_ := hji35_; rw [Int.one_mul] at h_; exact h_
                have hji35v : (ji33) ≤ 64 → (IntKind.u64.wrap (2 ^ (ji33).toNat)) = ji35 := fun hle_ => by have h_ := hji35z hle_; rw [Int.one_mul] at h_; exact h_
                have H' := Aside0.mk H
                clear H
                have p563 : 0 ≤ (x6_1 : Int) := of_decide_eq_true (by first | (with_reducible assumption) | assumption)
                have q563 : x6_1 < (t548.length : Int) := of_decide_eq_true (by first | (with_reducible assumption) | assumption)
                obtain ⟨ad563, e563, hx563_0⟩ := Kd.at_int (Kd.R_reads' HO_3.out).2.2 x6_1 p563 q563
                obtain rfl : ad552 = ad563 := (by injection e563)
                replace p563 := eq_true p563
                replace q563 := eq_true q563
                go_wp2
                repeat (go_quiet (fail); try go_wp2)
                go_roundg k2
                case measure => have := HK1.out; have := HK2.out; omega
                case rel => exact ⟨(Go.bits .or .u64 x5_1 (ji35)), (wrap64 (x6_1 + 1)), (by first | rfl | (simp; done) | (simp only [← hji35] <;> (first | rfl | simp)) | (simp [*]; done)), (by first | rfl | (simp; done) | (simp [*]; done)), H', ⟨by have := HK1.out; have := HK2.out; omega⟩, ⟨by (with_reducible repeat (first | apply Kd.R_alloc | apply Kd.R_drewN | apply Kd.R_drew)); exact HO_3.out⟩, ⟨stb HB⟩⟩
               ·rw [if_neg c34] at H
                exact absurd H (by simp)
              ·rw [if_neg c32] at H
               exact absurd H (by simp)
             ·rw [if_neg c31] at H
              exact absurd H (by simp)
      ·rw [if_neg c10] at H
       exact absurd H (by simp)
     ·rw [if_neg c9] at H
      have c9b0 : decide (x6_1 < (t548.length : Int)) = false := decide_eq_false c9
      clear c9
      obtain rfl := Option.some.inj H
      obtain ⟨Ao36, co36, eo36⟩ := Kd.R_slice HO_3.out
      subst eo36
      go_wp2
      repeat (go_quiet (fail); try go_wp2)
      go_ret
      exact ⟨by first | rfl | (simp [*, errW_none, errW_some] <;> rfl), stb HB⟩
  ·rw [if_neg c5] at H
   have c5b0 : (t549 == 0) = false := beq_eq_false_iff_ne.mpr c5
   have c5b1 : (t549 != 0) = true := bne_iff_ne.mpr c5
   obtain rfl := Option.some.inj H
   go_enter Try.func10, Try.ntmps10
   go_wp2_with (first | (go_at_call 12; (with_reducible refine (rampartlaw02_awake.calls k  true _ A2.out).mono ?_); rintro e w37 ⟨rfl, hb⟩; have n0_ := Aside0.mk (below_step (stb HB) hb); clear HB; have HB := n0_; clear n0_; (try clear hb); (try clear hb2); (try clear hk); (try clear hi); have HR547 := Aside0.mk (few_cut 17 HR0.out Ny544.out); have HC547 := Aside0.mk (few_cap 17 HC0.out Ny544.out)) | ((with_reducible refine gate_callee (f := 13) rfl ?_); refine goesL_ (some 11) rfl rfl Try.func13 (by kernel_rfl) rfl #[.slice A0 l0.length c0] rfl (by (try simp only [List.map_toArray, List.map_cons, List.map_nil]); first | done | rfl) ?_; (refine (few_calls A0 c0 l0 y544 _ HC0.out Ny544.out).mono ?_); rintro e w' ⟨rfl, rfl⟩; refine ⟨_, rfl, ?_⟩) | (go_at_call 37; (with_reducible refine (lattice_Order.calls k _ _ y544 t548 t549 _ ?side1 ?side2 A4.out).mono ?_); (case side1 => repeat (first | exact (Kd.C_below HR547.out HB.out) | (with_reducible refine Kd.C_alloc ?_ _) | (with_reducible refine Kd.C_drewN ?_ _) | (with_reducible refine Kd.C_drew ?_))); (case side2 => exact HC547.out); rintro e w39 ⟨v550, rfl, ho0, hb⟩; have n0_ := Aside0.mk (Kd.R_lower ho0 (below_size (stb HB))); have n1_ := Aside0.mk (below_step (stb HB) hb); clear HB; have HO551 := n0_; have HB := n1_; clear n0_ n1_; (try clear hb); (try clear hb2); (try clear hk); (try clear hi); (try clear ho0); obtain ⟨Ao40, co40, eo40⟩ := Kd.R_slice HO551.out; subst eo40))
   repeat (go_quiet (first | (go_at_call 12; (with_reducible refine (rampartlaw02_awake.calls k  true _ A2.out).mono ?_); rintro e w37 ⟨rfl, hb⟩; have n0_ := Aside0.mk (below_step (stb HB) hb); clear HB; have HB := n0_; clear n0_; (try clear hb); (try clear hb2); (try clear hk); (try clear hi); have HR547 := Aside0.mk (few_cut 17 HR0.out Ny544.out); have HC547 := Aside0.mk (few_cap 17 HC0.out Ny544.out)) | ((with_reducible refine gate_callee (f := 13) rfl ?_); refine goesL_ (some 11) rfl rfl Try.func13 (by kernel_rfl) rfl #[.slice A0 l0.length c0] rfl (by (try simp only [List.map_toArray, List.map_cons, List.map_nil]); first | done | rfl) ?_; (refine (few_calls A0 c0 l0 y544 _ HC0.out Ny544.out).mono ?_); rintro e w' ⟨rfl, rfl⟩; refine ⟨_, rfl, ?_⟩) | (go_at_call 37; (with_reducible refine (lattice_Order.calls k _ _ y544 t548 t549 _ ?side1 ?side2 A4.out).mono ?_); (case side1 => repeat (first | exact (Kd.C_below HR547.out HB.out) | (with_reducible refine Kd.C_alloc ?_ _) | (with_reducible refine Kd.C_drewN ?_ _) | (with_reducible refine Kd.C_drew ?_))); (case side2 => exact HC547.out); rintro e w39 ⟨v550, rfl, ho0, hb⟩; have n0_ := Aside0.mk (Kd.R_lower ho0 (below_size (stb HB))); have n1_ := Aside0.mk (below_step (stb HB) hb); clear HB; have HO551 := n0_; have HB := n1_; clear n0_ n1_; (try clear hb); (try clear hb2); (try clear hk); (try clear hi); (try clear ho0); obtain ⟨Ao40, co40, eo40⟩ := Kd.R_slice HO551.out; subst eo40)); try go_wp2_with (first | (go_at_call 12; (with_reducible refine (rampartlaw02_awake.calls k  true _ A2.out).mono ?_); rintro e w37 ⟨rfl, hb⟩; have n0_ := Aside0.mk (below_step (stb HB) hb); clear HB; have HB := n0_; clear n0_; (try clear hb); (try clear hb2); (try clear hk); (try clear hi); have HR547 := Aside0.mk (few_cut 17 HR0.out Ny544.out); have HC547 := Aside0.mk (few_cap 17 HC0.out Ny544.out)) | ((with_reducible refine gate_callee (f := 13) rfl ?_); refine goesL_ (some 11) rfl rfl Try.func13 (by kernel_rfl) rfl #[.slice A0 l0.length c0] rfl (by (try simp only [List.map_toArray, List.map_cons, List.map_nil]); first | done | rfl) ?_; (refine (few_calls A0 c0 l0 y544 _ HC0.out Ny544.out).mono ?_); rintro e w' ⟨rfl, rfl⟩; refine ⟨_, rfl, ?_⟩) | (go_at_call 37; (with_reducible refine (lattice_Order.calls k _ _ y544 t548 t549 _ ?side1 ?side2 A4.out).mono ?_); (case side1 => repeat (first | exact (Kd.C_below HR547.out HB.out) | (with_reducible refine Kd.C_alloc ?_ _) | (with_reducible refine Kd.C_drewN ?_ _) | (with_reducible refine Kd.C_drew ?_))); (case side2 => exact HC547.out); rintro e w39 ⟨v550, rfl, ho0, hb⟩; have n0_ := Aside0.mk (Kd.R_lower ho0 (below_size (stb HB))); have n1_ := Aside0.mk (below_step (stb HB) hb); clear HB; have HO551 := n0_; have HB := n1_; clear n0_ n1_; (try clear hb); (try clear hb2); (try clear hk); (try clear hi); (try clear ho0); obtain ⟨Ao40, co40, eo40⟩ := Kd.R_slice HO551.out; subst eo40)))
   go_ret
   exact ⟨by first | rfl | (simp [*, errW_none, errW_some] <;> rfl), stb HB⟩
 ·replace c3 := Bool.eq_false_iff.mpr c3
  subst c3
  have H1 : (some false) = some r := by rw [if_neg (show ¬ (false = true) by decide)] at H; exact H
  clear H
  have H := H1
  clear H1
  obtain rfl := Option.some.inj H
  go_enter Try.func10, Try.ntmps10
  go_wp2_with (first | (go_at_call 12; (with_reducible refine (rampartlaw02_awake.calls k  false _ A2.out).mono ?_); rintro e w41 ⟨rfl, hb⟩; have n0_ := Aside0.mk (below_step (stb HB) hb); clear HB; have HB := n0_; clear n0_; (try clear hb); (try clear hb2); (try clear hk); (try clear hi)))
  repeat (go_quiet (first | (go_at_call 12; (with_reducible refine (rampartlaw02_awake.calls k  false _ A2.out).mono ?_); rintro e w41 ⟨rfl, hb⟩; have n0_ := Aside0.mk (below_step (stb HB) hb); clear HB; have HB := n0_; clear n0_; (try clear hb); (try clear hb2); (try clear hk); (try clear hi))); try go_wp2_with (first | (go_at_call 12; (with_reducible refine (rampartlaw02_awake.calls k  false _ A2.out).mono ?_); rintro e w41 ⟨rfl, hb⟩; have n0_ := Aside0.mk (below_step (stb HB) hb); clear HB; have HB := n0_; clear n0_; (try clear hb); (try clear hb2); (try clear hk); (try clear hi))))
  go_ret
  exact ⟨by first | rfl | (simp [*, errW_none, errW_some] <;> rfl), stb HB⟩

/-- THE ONE PURE STATEMENT of rampartlaw02_LatticeOrder: yours. -/
def rampartlaw02_LatticeOrder.Pure : Prop := ∀ (l0 : List Int), l0.length ≤ maxLen → l0.length * 8 ≤ 140737488351232 → (∀ x ∈ l0, (Lit.int .u64 x).wf = true) → ∃ k, rampartlaw02_LatticeOrder.f k l0 = some true
theorem rampartlaw02_LatticeOrder.walk (P : rampartlaw02_LatticeOrder.Pure) (a0 : Option Addr) (len0 cap0 : Nat) (z0 : List Int) (w : World) (w0 : (a0 = none ∧ len0 = 0 ∧ cap0 = 0 ∧ z0 = []) ∨ ∃ x, a0 = some x ∧ len0 ≤ cap0 ∧ cap0 ≤ maxLen ∧ z0.length = cap0 ∧ (∀ i, i < z0.length → w.cell? (x.add i) = some (.int .u64 (z0.getD i 0))) ∧ ∀ n ∈ z0, (Lit.int .u64 n).wf = true) (y0 : len0 * 8 ≤ 140737488351232) :
  Calls Try.prog 10 #[.slice a0 len0 cap0] w fun e w' => e = .returned (.bool true) ∧ Below w.heap.size w w' := by
 obtain ⟨l0, rfl, hr0, hm0, hw0, hc0⟩ := ReadsInt.ofRowC w0
 obtain ⟨k, h⟩ := P l0 hm0 y0 hw0
 refine (rampartlaw02_LatticeOrder.calls k _ _ l0 true w (Kd.C_of_reads (d := (0 : Int)) (h1 := fun _ => rfl) hr0) hc0 h).mono ?_
 rintro e w' ⟨rfl, hd⟩
 exact ⟨rfl, hd⟩

/-! ### rampartref02_Lattice: function 38 -/
mutual
def rampartref02_Lattice.l0 : Nat → List Int → Int → Option (Int × Int × Bool × Int)
 | 0, _, _ => none
 | k + 1, x0, x6 => if x6 < (x0.length : Int) then (rampartref02_Lattice.l1 k x0 x6 0) else (some (0, 0, true, 0))
def rampartref02_Lattice.l1 : Nat → List Int → Int → Int → Option (Int × Int × Bool × Int)
 | 0, _, _, _ => none
 | k + 1, x0, x6, x7 => if x7 < (x0.length : Int) then ((rampartref02_joins.f k x0 x6 x7).bind fun t566 => (if t566 = 0 then (some (x6, x7, false, 0)) else ((rampartref02_meets.f k x0 x6 x7).bind fun t567 => (if t567 = 0 then (some (x6, x7, false, 0)) else (rampartref02_Lattice.l1 k x0 x6 (wrap64 (x7 + 1))))))) else (rampartref02_Lattice.l0 k x0 (wrap64 (x6 + 1)))
end
def rampartref02_Lattice.f (k : Nat) (l0 : List Int) : Option (Int × Int × Bool × Int) := (rampartref02_Check.f k l0).bind fun t565 => (if t565 = 0 then (rampartref02_Lattice.l0 k l0 0) else (some (0, 0, false, t565)))
set_option maxHeartbeats 8000000 in
set_option maxRecDepth 100000 in
theorem rampartref02_Lattice.calls (k : Nat) (A0 : Option Addr) (c0 : Nat) (l0 : List Int) (r1 : Int) (r2 : Int) (r3 : Bool) (r4 : Int) (w : World) (hr0 : Kd.C (Kd.int .u64) w A0 l0.length l0) (hc0 : l0.length ≤ c0) (h : rampartref02_Lattice.f k l0 = some (r1, r2, r3, r4)) :
  Calls Try.prog 38 #[.slice A0 l0.length c0] w fun e w' => e = .returned (.tuple #[.agg #[.int .i64 r1, .int .i64 r2], .bool r3, .int .i64 r4]) ∧ Below w.heap.size w w' := by
 have hu32 := Try.underlying32
 have HR0 := Aside0.mk hr0
 have HC0 := Aside0.mk hc0
 clear hr0 hc0
 have HB := Aside0.mk (Below.refl w.heap.size w)
 have H : ((rampartref02_Check.f k l0).bind fun t565 => (if t565 = 0 then (rampartref02_Lattice.l0 k l0 0) else (some (0, 0, false, t565)))) = some (r1, r2, r3, r4) := h
 clear h
 replace H := Option.bind_eq_some_iff.mp H
 obtain ⟨t565, A20, H⟩ := H
 replace H : (if t565 = 0 then (rampartref02_Lattice.l0 k l0 0) else (some (0, 0, false, t565))) = some (r1, r2, r3, r4) := H
 have A2 := Aside0.mk A20
 clear A20
 by_cases c3 : t565 = 0
 ·rw [if_pos c3] at H
  have c3b0 : (t565 == 0) = true := beq_iff_eq.mpr c3
  have c3b1 : (t565 != 0) = false := bne_eq_false_iff_eq.mpr c3
  clear c3
  have H' := Aside0.mk H
  clear H
  go_enter Try.func38, Try.ntmps38
  go_wp2_with (first | ((with_reducible refine gate_dst (N := 2) rfl ?_); refine box_event ?hg (N := 2) ?hd (cs := #[.int .i64 0, .int .i64 0]) (t := 32) ?hr ?_; (case hd => rfl); (case hg => rfl); (case hr => first | (go_simp; done) | (go_simp; rfl)); intro gb564 hg w4 hbox hb; have ⟨n0_, n2_⟩ := pkB (stb HB) hb hg; have n3_ := n2_; have n1_ := Aside0.mk (hbox); clear HB; have HB := n0_; have BK564 := n1_; have GW564 := n2_; have GE564 := n3_; clear n0_ n1_ n2_ n3_; clear hb hbox hg) | ((with_reducible refine gate_callee (f := 31) rfl ?_); refine goesL_ (some 9) rfl rfl Try.func31 (by kernel_rfl) rfl #[.slice A0 l0.length c0] rfl (by (try simp only [List.map_toArray, List.map_cons, List.map_nil]); first | done | rfl | (simp only [List.length_drop, List.length_take]; rfl)) ?_; (with_reducible refine (rampartref02_Check.calls k _ _ l0 t565 _ ?side1 ?side2 A2.out).mono ?_); (case side1 => repeat (first | exact (Kd.C_below HR0.out HB.out) | (with_reducible refine Kd.C_alloc ?_ _) | (with_reducible refine Kd.C_drewN ?_ _) | (with_reducible refine Kd.C_drew ?_))); (case side2 => exact HC0.out); rintro e w5 ⟨rfl, hb⟩; refine ⟨_, rfl, ?_⟩; have n0_ := Aside0.mk (blk_below (stp BK564) hb); have n1_ := Aside0.mk (below_step (by repeat (first | (with_reducible first | exact HB.out | apply below_alloc | apply pw_below_drewN | apply below_drew1 | refine below_set ?_ GE564.out) | exact HB.out)) hb); clear BK564; clear HB; have BK564 := n0_; have HB := n1_; clear n0_ n1_; (try clear hb); (try clear hb2); (try clear hk); (try clear hi)))
  go_loopg [6] k (fun kq v6 w' => ∃ (x6_1 : Int) (x565000_1 : Int) (x565001_1 : Int), v6 = .int .i64 x6_1 ∧ Aside0 (rampartref02_Lattice.l0 kq l0 x6_1 = some (r1, r2, r3, r4)) ∧ Aside0 (kq ≤ k) ∧ Aside0 (w'.heap[gb564]? = some (.cells #[.int .i64 x565000_1, .int .i64 x565001_1] 32 (0, 0))) ∧ Aside0 (Below w.heap.size w w'))
  case atStart => exact ⟨(0), (0), (0), (by first | rfl | (simp; done) | (simp [*]; done)), H', ⟨Nat.le_refl _⟩, ⟨stp BK564⟩, ⟨by repeat (first | (with_reducible first | exact HB.out | apply below_alloc | apply pw_below_drewN | apply below_drew1 | refine below_set ?_ GE564.out) | exact HB.out)⟩⟩
  case round =>
   clear H'
   try clear p2
   try clear c3
   try clear c3b0
   try clear c3b1
   obtain ⟨x6_1, x565000_1, x565001_1, rfl, HA, HK1, BK564, HB⟩ := hrel
   cases gk with
   | zero => exact absurd HA.out (by simp [rampartref02_Lattice.l0])
   | succ k1 =>
    have H := HA.out
    clear HA
    simp only [rampartref02_Lattice.l0] at H
    by_cases c6 : x6_1 < (l0.length : Int)
    ·rw [if_pos c6] at H
     have c6b0 : decide (x6_1 < (l0.length : Int)) = true := decide_eq_true c6
     clear c6
     have H' := Aside0.mk H
     clear H
     go_wp2
     go_loopg [7] k1 (fun kq v7 w' => ∃ (x7_2 : Int) (x565000_2 : Int) (x565001_2 : Int), v7 = .int .i64 x7_2 ∧ Aside0 (rampartref02_Lattice.l1 kq l0 x6_1 x7_2 = some (r1, r2, r3, r4)) ∧ Aside0 (kq ≤ k1) ∧ Aside0 (w'.heap[gb564]? = some (.cells #[.int .i64 x565000_2, .int .i64 x565001_2] 32 (0, 0))) ∧ Aside0 (Below w.heap.size w w'))
     case atStart => exact ⟨(0), (x565000_1), (x565001_1), (by first | rfl | (simp; done) | (simp [*]; done)), H', ⟨Nat.le_refl _⟩, ⟨stp BK564⟩, ⟨by repeat (first | (with_reducible first | exact HB.out | apply below_alloc | apply pw_below_drewN | apply below_drew1 | refine below_set ?_ GE564.out) | exact HB.out)⟩⟩
     case round =>
      clear H'
      try clear p2
      try clear c3
      try clear c3b0
      try clear c3b1
      try clear c6
      try clear c6b0
      try clear p2
      obtain ⟨x7_2, x565000_2, x565001_2, rfl, HA, HK2, BK564, HB⟩ := hrel
      cases gk with
      | zero => exact absurd HA.out (by simp [rampartref02_Lattice.l1])
      | succ k2 =>
       have H := HA.out
       clear HA
       simp only [rampartref02_Lattice.l1] at H
       by_cases c7 : x7_2 < (l0.length : Int)
       ·rw [if_pos c7] at H
        have c7b0 : decide (x7_2 < (l0.length : Int)) = true := decide_eq_true c7
        clear c7
        replace H := Option.bind_eq_some_iff.mp H
        obtain ⟨t566, A80, H⟩ := H
        replace H : (if t566 = 0 then (some (x6_1, x7_2, false, 0)) else ((rampartref02_meets.f k2 l0 x6_1 x7_2).bind fun t567 => (if t567 = 0 then (some (x6_1, x7_2, false, 0)) else (rampartref02_Lattice.l1 k2 l0 x6_1 (wrap64 (x7_2 + 1)))))) = some (r1, r2, r3, r4) := H
        have A8 := Aside0.mk A80
        clear A80
        by_cases c9 : t566 = 0
        ·rw [if_pos c9] at H
         have c9b0 : (t566 == 0) = true := beq_iff_eq.mpr c9
         have c9b1 : (t566 != 0) = false := bne_eq_false_iff_eq.mpr c9
         clear c9
         simp only [Option.some.injEq, Prod.mk.injEq] at H
         obtain ⟨rfl, rfl, rfl, rfl⟩ := H
         go_wp2_with (first | ((with_reducible refine gate_callee (f := 54) rfl ?_); refine goesL_ (some 29) rfl rfl Try.func54 (by kernel_rfl) rfl #[.slice A0 l0.length c0, .int .i64 x6_1, .int .i64 x7_2] rfl (by (try simp only [List.map_toArray, List.map_cons, List.map_nil]); first | done | rfl | (simp only [List.length_drop, List.length_take]; rfl)) ?_; (with_reducible refine (rampartref02_joins.calls k2 _ _ l0 x6_1 x7_2 t566 _ ?side1 ?side2 A8.out).mono ?_); (case side1 => repeat (first | exact (Kd.C_below HR0.out HB.out) | (with_reducible refine Kd.C_alloc ?_ _) | (with_reducible refine Kd.C_drewN ?_ _) | (with_reducible refine Kd.C_drew ?_))); (case side2 => exact HC0.out); rintro e w' ⟨rfl, ⟨nd, rfl⟩⟩; refine ⟨_, rfl, ?_⟩; (try (rw [drewN_self wr]; generalize hq_ : World.drewN wr _ = wr; have n0_ : Aside0 (wr.heap[gb564]? = some (.cells #[.int .i64 x565000_2, .int .i64 x565001_2] 32 (0, 0))) := ⟨by rw [← hq_]; exact (stp BK564)⟩; have n1_ : Aside0 (Below w.heap.size w wr) := ⟨by rw [← hq_]; exact (by repeat (first | (with_reducible first | exact HB.out | apply below_alloc | apply pw_below_drewN | apply below_drew1 | refine below_set ?_ GE564.out) | exact HB.out))⟩; clear BK564 HB hq_; have BK564 := n0_; have HB := n1_; clear n0_ n1_)); have hcz10_0 : wr.cell? ⟨gb564, 0, none⟩ = some (.int .i64 x565000_2) := (blk_cell BK564.out 0).trans rfl; have hcz10_1 : wr.cell? ⟨gb564, 1, none⟩ = some (.int .i64 x565001_2) := (blk_cell BK564.out 1).trans rfl; have hfz10_0 := blk_frozen BK564.out 0; have hfz10_1 := blk_frozen BK564.out 1))
         refine bodyPost_ret (results_ctt rfl _ _ gb564 32 #[.int .i64 x6_1, .int .i64 x7_2] (0, 0) _ rfl (by refine stq ?_; refine blk_put (cs := #[.int .i64 x6_1, .int .i64 x565001_2]) ?_ 1 _ rfl; refine stq ?_; refine blk_put (cs := #[.int .i64 x565000_2, .int .i64 x565001_2]) ?_ 0 _ rfl; refine stq ?_; exact BK564.out) Try.underlying32 rfl (by kernel_rfl)) rfl ?_
         exact ⟨by first | rfl | (simp [*, errW_none, errW_some] <;> rfl), by repeat (first | (with_reducible first | exact HB.out | apply below_alloc | apply pw_below_drewN | apply below_drew1 | refine below_set ?_ GE564.out) | exact HB.out)⟩
        ·rw [if_neg c9] at H
         have c9b0 : (t566 == 0) = false := beq_eq_false_iff_ne.mpr c9
         have c9b1 : (t566 != 0) = true := bne_iff_ne.mpr c9
         replace H := Option.bind_eq_some_iff.mp H
         obtain ⟨t567, A110, H⟩ := H
         replace H : (if t567 = 0 then (some (x6_1, x7_2, false, 0)) else (rampartref02_Lattice.l1 k2 l0 x6_1 (wrap64 (x7_2 + 1)))) = some (r1, r2, r3, r4) := H
         have A11 := Aside0.mk A110
         clear A110
         by_cases c12 : t567 = 0
         ·rw [if_pos c12] at H
          have c12b0 : (t567 == 0) = true := beq_iff_eq.mpr c12
          have c12b1 : (t567 != 0) = false := bne_eq_false_iff_eq.mpr c12
          clear c12
          simp only [Option.some.injEq, Prod.mk.injEq] at H
          obtain ⟨rfl, rfl, rfl, rfl⟩ := H
          go_wp2_with (first | ((with_reducible refine gate_callee (f := 54) rfl ?_); refine goesL_ (some 29) rfl rfl Try.func54 (by kernel_rfl) rfl #[.slice A0 l0.length c0, .int .i64 x6_1, .int .i64 x7_2] rfl (by (try simp only [List.map_toArray, List.map_cons, List.map_nil]); first | done | rfl | (simp only [List.length_drop, List.length_take]; rfl)) ?_; (with_reducible refine (rampartref02_joins.calls k2 _ _ l0 x6_1 x7_2 t566 _ ?side1 ?side2 A8.out).mono ?_); (case side1 => repeat (first | exact (Kd.C_below HR0.out HB.out) | (with_reducible refine Kd.C_alloc ?_ _) | (with_reducible refine Kd.C_drewN ?_ _) | (with_reducible refine Kd.C_drew ?_))); (case side2 => exact HC0.out); rintro e w' ⟨rfl, ⟨nd, rfl⟩⟩; refine ⟨_, rfl, ?_⟩; (try (rw [drewN_self wr]; generalize hq_ : World.drewN wr _ = wr; have n0_ : Aside0 (wr.heap[gb564]? = some (.cells #[.int .i64 x565000_2, .int .i64 x565001_2] 32 (0, 0))) := ⟨by rw [← hq_]; exact (stp BK564)⟩; have n1_ : Aside0 (Below w.heap.size w wr) := ⟨by rw [← hq_]; exact (by repeat (first | (with_reducible first | exact HB.out | apply below_alloc | apply pw_below_drewN | apply below_drew1 | refine below_set ?_ GE564.out) | exact HB.out))⟩; clear BK564 HB hq_; have BK564 := n0_; have HB := n1_; clear n0_ n1_))) | (go_at_call 56; (with_reducible refine (rampartref02_meets.calls k2 _ _ l0 x6_1 x7_2 t567 _ ?side1 ?side2 A11.out).mono ?_); (case side1 => repeat (first | exact (Kd.C_below HR0.out HB.out) | (with_reducible refine Kd.C_alloc ?_ _) | (with_reducible refine Kd.C_drewN ?_ _) | (with_reducible refine Kd.C_drew ?_))); (case side2 => exact HC0.out); rintro e w13 ⟨rfl, hb⟩; have n0_ := Aside0.mk (blk_below (stp BK564) hb); have n1_ := Aside0.mk (below_step (by repeat (first | (with_reducible first | exact HB.out | apply below_alloc | apply pw_below_drewN | apply below_drew1 | refine below_set ?_ GE564.out) | exact HB.out)) hb); clear BK564; clear HB; have BK564 := n0_; have HB := n1_; clear n0_ n1_; (try clear hb); (try clear hb2); (try clear hk); (try clear hi); have hcz14_0 : w13.cell? ⟨gb564, 0, none⟩ = some (.int .i64 x565000_2) := (blk_cell BK564.out 0).trans rfl; have hcz14_1 : w13.cell? ⟨gb564, 1, none⟩ = some (.int .i64 x565001_2) := (blk_cell BK564.out 1).trans rfl; have hfz14_0 := blk_frozen BK564.out 0; have hfz14_1 := blk_frozen BK564.out 1))
          refine bodyPost_ret (results_ctt rfl _ _ gb564 32 #[.int .i64 x6_1, .int .i64 x7_2] (0, 0) _ rfl (by refine stq ?_; refine blk_put (cs := #[.int .i64 x6_1, .int .i64 x565001_2]) ?_ 1 _ rfl; refine stq ?_; refine blk_put (cs := #[.int .i64 x565000_2, .int .i64 x565001_2]) ?_ 0 _ rfl; refine stq ?_; exact BK564.out) Try.underlying32 rfl (by kernel_rfl)) rfl ?_
          exact ⟨by first | rfl | (simp [*, errW_none, errW_some] <;> rfl), by repeat (first | (with_reducible first | exact HB.out | apply below_alloc | apply pw_below_drewN | apply below_drew1 | refine below_set ?_ GE564.out) | exact HB.out)⟩
         ·rw [if_neg c12] at H
          have c12b0 : (t567 == 0) = false := beq_eq_false_iff_ne.mpr c12
          have c12b1 : (t567 != 0) = true := bne_iff_ne.mpr c12
          have H' := Aside0.mk H
          clear H
          go_wp2_with (first | ((with_reducible refine gate_callee (f := 54) rfl ?_); refine goesL_ (some 29) rfl rfl Try.func54 (by kernel_rfl) rfl #[.slice A0 l0.length c0, .int .i64 x6_1, .int .i64 x7_2] rfl (by (try simp only [List.map_toArray, List.map_cons, List.map_nil]); first | done | rfl | (simp only [List.length_drop, List.length_take]; rfl)) ?_; (with_reducible refine (rampartref02_joins.calls k2 _ _ l0 x6_1 x7_2 t566 _ ?side1 ?side2 A8.out).mono ?_); (case side1 => repeat (first | exact (Kd.C_below HR0.out HB.out) | (with_reducible refine Kd.C_alloc ?_ _) | (with_reducible refine Kd.C_drewN ?_ _) | (with_reducible refine Kd.C_drew ?_))); (case side2 => exact HC0.out); rintro e w' ⟨rfl, ⟨nd, rfl⟩⟩; refine ⟨_, rfl, ?_⟩) | (go_at_call 56; (with_reducible refine (rampartref02_meets.calls k2 _ _ l0 x6_1 x7_2 t567 _ ?side1 ?side2 A11.out).mono ?_); (case side1 => repeat (first | exact (Kd.C_below HR0.out (by repeat (first | (with_reducible first | exact HB.out | apply below_alloc | apply pw_below_drewN | apply below_drew1 | refine below_set ?_ GE564.out) | exact HB.out))) | (with_reducible refine Kd.C_alloc ?_ _) | (with_reducible refine Kd.C_drewN ?_ _) | (with_reducible refine Kd.C_drew ?_))); (case side2 => exact HC0.out); rintro e w15 ⟨rfl, hb⟩; have n0_ := Aside0.mk (blk_below (stp BK564) hb); have n1_ := Aside0.mk (below_step (by repeat (first | (with_reducible first | exact HB.out | apply below_alloc | apply pw_below_drewN | apply below_drew1 | refine below_set ?_ GE564.out) | exact HB.out)) hb); clear BK564; clear HB; have BK564 := n0_; have HB := n1_; clear n0_ n1_; (try clear hb); (try clear hb2); (try clear hk); (try clear hi)))
          go_roundg k2
          case measure => have := HK1.out; have := HK2.out; omega
          case rel => exact ⟨(wrap64 (x7_2 + 1)), (x565000_2), (x565001_2), (by first | rfl | (simp; done) | (simp [*]; done)), H', ⟨by have := HK1.out; have := HK2.out; omega⟩, ⟨stp BK564⟩, ⟨by repeat (first | (with_reducible first | exact HB.out | apply below_alloc | apply pw_below_drewN | apply below_drew1 | refine below_set ?_ GE564.out) | exact HB.out)⟩⟩
       ·rw [if_neg c7] at H
        have c7b0 : decide (x7_2 < (l0.length : Int)) = false := decide_eq_false c7
        clear c7
        have H' := Aside0.mk H
        clear H
        go_wp2
        go_roundg k2
        case measure => have := HK1.out; have := HK2.out; omega
        case rel => exact ⟨(wrap64 (x6_1 + 1)), (x565000_2), (x565001_2), (by first | rfl | (simp; done) | (simp [*]; done)), H', ⟨by have := HK1.out; have := HK2.out; omega⟩, ⟨stp BK564⟩, ⟨by repeat (first | (with_reducible first | exact HB.out | apply below_alloc | apply pw_below_drewN | apply below_drew1 | refine below_set ?_ GE564.out) | exact HB.out)⟩⟩
    ·rw [if_neg c6] at H
     have c6b0 : decide (x6_1 < (l0.length : Int)) = false := decide_eq_false c6
     clear c6
     simp only [Option.some.injEq, Prod.mk.injEq] at H
     obtain ⟨rfl, rfl, rfl, rfl⟩ := H
     have hcz16_0 : wr.cell? ⟨gb564, 0, none⟩ = some (.int .i64 x565000_1) := (blk_cell BK564.out 0).trans rfl
     have hcz16_1 : wr.cell? ⟨gb564, 1, none⟩ = some (.int .i64 x565001_1) := (blk_cell BK564.out 1).trans rfl
     have hfz16_0 := blk_frozen BK564.out 0
     have hfz16_1 := blk_frozen BK564.out 1
     go_wp2
     refine bodyPost_ret (results_ctt rfl _ _ gb564 32 #[.int .i64 0, .int .i64 0] (0, 0) _ rfl (by refine stq ?_; refine blk_put (cs := #[.int .i64 0, .int .i64 x565001_1]) ?_ 1 _ rfl; refine stq ?_; refine blk_put (cs := #[.int .i64 x565000_1, .int .i64 x565001_1]) ?_ 0 _ rfl; refine stq ?_; exact BK564.out) Try.underlying32 rfl (by kernel_rfl)) rfl ?_
     exact ⟨by first | rfl | (simp [*, errW_none, errW_some] <;> rfl), by repeat (first | (with_reducible first | exact HB.out | apply below_alloc | apply pw_below_drewN | apply below_drew1 | refine below_set ?_ GE564.out) | exact HB.out)⟩
 ·rw [if_neg c3] at H
  have c3b0 : (t565 == 0) = false := beq_eq_false_iff_ne.mpr c3
  have c3b1 : (t565 != 0) = true := bne_iff_ne.mpr c3
  simp only [Option.some.injEq, Prod.mk.injEq] at H
  obtain ⟨rfl, rfl, rfl, rfl⟩ := H
  go_enter Try.func38, Try.ntmps38
  go_wp2_with (first | ((with_reducible refine gate_dst (N := 2) rfl ?_); refine box_event ?hg (N := 2) ?hd (cs := #[.int .i64 0, .int .i64 0]) (t := 32) ?hr ?_; (case hd => rfl); (case hg => rfl); (case hr => first | (go_simp; done) | (go_simp; rfl)); intro gb564 hg w17 hbox hb; have ⟨n0_, n2_⟩ := pkB (stb HB) hb hg; have n3_ := n2_; have n1_ := Aside0.mk (hbox); clear HB; have HB := n0_; have BK564 := n1_; have GW564 := n2_; have GE564 := n3_; clear n0_ n1_ n2_ n3_; clear hb hbox hg) | ((with_reducible refine gate_callee (f := 31) rfl ?_); refine goesL_ (some 9) rfl rfl Try.func31 (by kernel_rfl) rfl #[.slice A0 l0.length c0] rfl (by (try simp only [List.map_toArray, List.map_cons, List.map_nil]); first | done | rfl | (simp only [List.length_drop, List.length_take]; rfl)) ?_; (with_reducible refine (rampartref02_Check.calls k _ _ l0 t565 _ ?side1 ?side2 A2.out).mono ?_); (case side1 => repeat (first | exact (Kd.C_below HR0.out HB.out) | (with_reducible refine Kd.C_alloc ?_ _) | (with_reducible refine Kd.C_drewN ?_ _) | (with_reducible refine Kd.C_drew ?_))); (case side2 => exact HC0.out); rintro e w18 ⟨rfl, hb⟩; refine ⟨_, rfl, ?_⟩; have n0_ := Aside0.mk (blk_below (stp BK564) hb); have n1_ := Aside0.mk (below_step (by repeat (first | (with_reducible first | exact HB.out | apply below_alloc | apply pw_below_drewN | apply below_drew1 | refine below_set ?_ GE564.out) | exact HB.out)) hb); clear BK564; clear HB; have BK564 := n0_; have HB := n1_; clear n0_ n1_; (try clear hb); (try clear hb2); (try clear hk); (try clear hi); have hcz19_0 : w18.cell? ⟨gb564, 0, none⟩ = some (.int .i64 0) := (blk_cell BK564.out 0).trans rfl; have hcz19_1 : w18.cell? ⟨gb564, 1, none⟩ = some (.int .i64 0) := (blk_cell BK564.out 1).trans rfl; have hfz19_0 := blk_frozen BK564.out 0; have hfz19_1 := blk_frozen BK564.out 1))
  refine bodyPost_ret (results_ctt rfl _ _ gb564 32 #[.int .i64 0, .int .i64 0] (0, 0) _ rfl (by refine stq ?_; refine blk_put (cs := #[.int .i64 0, .int .i64 0]) ?_ 1 _ rfl; refine stq ?_; refine blk_put (cs := #[.int .i64 0, .int .i64 0]) ?_ 0 _ rfl; refine stq ?_; exact BK564.out) Try.underlying32 rfl (by kernel_rfl)) rfl ?_
  exact ⟨by first | rfl | (simp [*, errW_none, errW_some] <;> rfl), by repeat (first | (with_reducible first | exact HB.out | apply below_alloc | apply pw_below_drewN | apply below_drew1 | refine below_set ?_ GE564.out) | exact HB.out)⟩

end Go.Proofs.Ytlbjcmiegbejdaa.Q
