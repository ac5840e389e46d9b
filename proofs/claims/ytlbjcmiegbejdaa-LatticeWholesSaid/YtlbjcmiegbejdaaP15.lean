/- Layer 2, plain: whether flows are a lattice, the classes, an order. -/
import Derived.Test.YtlbjcmiegbejdaaQx22
import Derived.Test.YtlbjcmiegbejdaaP13
namespace Go.Proofs.Ytlbjcmiegbejdaa.Q
open Go.RowKit Go.Proofs.YtlbjcmiegbejdaaW.PrintWords Go.Proofs.YtlbjcmiegbejdaaW.PrintMore Go.Proofs.YtlbjcmiegbejdaaW.PrintLast Go.Proofs.Ytlbjcmiegbejdaa.Bm
set_option linter.unusedVariables false
set_option linter.unusedSimpArgs false
theorem sameI_l0 {l : List Int} (h : l.length < 1000000) : ∀ (d i : Nat), l.length - i = d → i ≤ l.length → Ev (fun k => rampartlaw02_sameInts.l0 k l l (i : Int)) true
  | 0, i, hd, hi => by
    refine Ev.step (f := fun _ => some true) (fun k => ?_) (Ev.now _)
    simp only [rampartlaw02_sameInts.l0]
    rw [if_neg (by omega)]
  | d + 1, i, hd, hi => by
    refine Ev.step (fun k => ?_) (sameI_l0 h d (i + 1) (by omega) (by omega))
    simp only [rampartlaw02_sameInts.l0]
    rw [if_pos (by omega), if_pos (by omega), if_pos (by omega), if_pos trivial, w64_inc (by omega)]
theorem sameI_ev {l : List Int} (h : l.length < 1000000) : Ev (fun k => rampartlaw02_sameInts.f k l l) true := by
  unfold rampartlaw02_sameInts.f
  refine Ev.congr (fun k => if_pos rfl) (sameI_l0 h l.length 0 (by omega) (by omega))
theorem same4_ev {l : List Int} (h : l.length < 1000000) : Ev (fun k => rampartref02_Same.f k l l) true := by
  unfold rampartref02_Same.f
  exact Ev.bind (same_ev h) (Ev.now _)
theorem classes_len {l : List Int} (h : okUb l = true) : (if chk l = 0 then (clsTo l (labs l.length l.length), (0 : Int)) else ([], chk l)).1.length < 1000000 := by
  split
  · next h0 =>
    have h1 := clsTo_len' (l := l) (Nat.le_refl l.length)
    have := (shp_zero (chk_zero h0).1).1
    show (clsTo l (labs l.length l.length)).length < 1000000
    omega
  · simp
theorem wholes_ev {l0 : List Int} (h : okUb (l0.take 17) = true) : Ev (fun k => rampartlaw02_LatticeWholes.f k l0) true := by
  unfold rampartlaw02_LatticeWholes.f
  simp only [Option.bind_some, lattice_b' h, classes_b h]
  obtain ⟨v, e1, e2, hv, _, _⟩ := order_ev h
  have hcl := classes_len h
  refine Ev.bind (lattice_ev h) (Ev.bind (classes_ev h) (Ev.bind e1 (Ev.bind e2 ?_)))
  refine Ev.congr (fun k => if_pos (by simp)) (Ev.congr (fun k => if_pos (by simp)) (Ev.congr (fun k => if_pos rfl) (Ev.bind (same4_ev hcl) ?_)))
  refine Ev.congr (fun k => if_pos rfl) (Ev.congr (fun k => if_pos rfl) (Ev.bind (sameI_ev hv) ?_))
  refine Ev.congr (fun k => if_pos rfl) (Ev.congr (fun k => if_pos rfl) ?_)
  exact Ev.bind awake_ev (Ev.now _)
end Go.Proofs.Ytlbjcmiegbejdaa.Q
