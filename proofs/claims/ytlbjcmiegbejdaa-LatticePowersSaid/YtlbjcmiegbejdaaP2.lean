/- Layer 2, plain: the reference's Turn. -/
import Derived.Test.YtlbjcmiegbejdaaQx13
import Derived.Test.YtlbjcmiegbejdaaP1
namespace Go.Proofs.Ytlbjcmiegbejdaa.Q
open Go.RowKit Go.Proofs.YtlbjcmiegbejdaaW.PrintWords Go.Proofs.YtlbjcmiegbejdaaW.PrintMore Go.Proofs.YtlbjcmiegbejdaaW.PrintLast Go.Proofs.Ytlbjcmiegbejdaa.Bm
set_option linter.unusedVariables false
set_option linter.unusedSimpArgs false
theorem turn_l1 {l : List Int} (hl : okU l) (h64 : l.length ≤ 64) {i : Nat} (hi : i < l.length) {r : List Int × Int}
    (h : Ev (fun k => rampartref01_Turn.l0 k l (rowsI (turnK (rowsF l) (i + 1)) l.length) ((i + 1 : Nat) : Int)) r) : ∀ (d j : Nat), l.length - j = d → j ≤ l.length →
    Ev (fun k => rampartref01_Turn.l1 k l (rowsI (turnJ (rowsF l) i j) l.length) (i : Int) (j : Int)) r
  | 0, j, hd, hj => by
    refine Ev.step (fun k => ?_) h
    simp only [rampartref01_Turn.l1]
    rw [if_neg (by omega), w64_inc (by omega), rowsI_ext (fun m hm => turnJ_end (n := j) (by omega))]
  | d + 1, j, hd, hj => by
    have ih := turn_l1 hl h64 hi h d (j + 1) (by omega) (by omega)
    refine Ev.step (f := fun k => (rampartref01_Has.f k ((rowsF l i : Nat) : Int) (j : Int)).bind fun t => if t = true then (rampartref01_with.f k ((turnJ (rowsF l) i j j : Nat) : Int) (i : Int)).bind fun t' => rampartref01_Turn.l1 k l ((rowsI (turnJ (rowsF l) i j) l.length).set j t') (i : Int) ((j + 1 : Nat) : Int) else rampartref01_Turn.l1 k l (rowsI (turnJ (rowsF l) i j) l.length) (i : Int) ((j + 1 : Nat) : Int)) (fun k => ?_) ?_
    · simp only [rampartref01_Turn.l1]
      have hln := rowsI_len (turnJ (rowsF l) i j) l.length
      have c1 : (0 : Int) ≤ (j : Int) := by omega
      have c2 : (j : Int) < (((rowsI (turnJ (rowsF l) i j) l.length).length : Nat) : Int) := by omega
      rw [if_pos (by omega), if_pos (by omega), if_pos (by omega), rd_rows hl hi, w64_inc (by omega), rd_rowsI (by omega), Int.toNat_natCast]
      simp only [if_pos c1, if_pos c2]
    · refine Ev.bind (has_nat (okU_at hl hi).2 (by omega)) ?_
      cases hb : (rowsF l i).testBit j
      · rw [turnJ_no hb] at ih
        simpa using ih
      · rw [← turnJ_yes hb] at ih
        refine Ev.congr (fun k => if_pos rfl) (Ev.bind (with_ev (turnJ_lt _ (by omega) _ _) (by omega)) ?_)
        simp only [set_rowsI]
        exact ih
theorem turn_l0 {l : List Int} (hl : okU l) (h64 : l.length ≤ 64) : ∀ (d i : Nat), l.length - i = d → i ≤ l.length →
    Ev (fun k => rampartref01_Turn.l0 k l (rowsI (turnK (rowsF l) i) l.length) (i : Int)) (rowsI (turnK (rowsF l) l.length) l.length, 0)
  | 0, i, hd, hi => by
    obtain rfl : i = l.length := by omega
    refine Ev.step (f := fun _ => some (rowsI (turnK (rowsF l) l.length) l.length, 0)) (fun k => ?_) (Ev.now _)
    simp only [rampartref01_Turn.l0]
    rw [if_neg (by omega)]
  | d + 1, i, hd, hi => by
    have ih := turn_l0 hl h64 d (i + 1) (by omega) (by omega)
    refine Ev.step (fun k => ?_) (turn_l1 hl h64 (by omega) ih l.length 0 (by omega) (by omega))
    simp only [rampartref01_Turn.l0]
    rw [if_pos (by omega), turnJ_zero]
    rfl
/-- Turned, by the document. -/
def turnR (l : List Int) : List Int × Int := if (ofR l).2.2 = 0 then (rowsI (turnK (rowsF l) l.length) l.length, 0) else ([], (ofR l).2.2)
theorem turn_ev {l : List Int} (hl : okU l) : Ev (fun k => rampartref01_Turn.f k l) (turnR l) := by
  unfold rampartref01_Turn.f turnR
  refine Ev.bind (check_ev hl) ?_
  by_cases he : (ofR l).2.2 = 0
  · have h64 := (ofR_len he).1
    have h := turn_l0 hl h64 l.length 0 (by omega) (by omega)
    rw [turnK_zero, ← rep_rowsI] at h
    rw [if_pos he]
    refine Ev.congr (fun k => ?_) h
    rw [if_pos he, if_pos (by omega), if_pos (by simp; omega), Int.toNat_natCast]
    rfl
  · rw [if_neg he]
    refine Ev.congr (f := fun _ => some (([], (ofR l).2.2) : List Int × Int)) (fun k => ?_) (Ev.now _)
    rw [if_neg he]
theorem turn_b {l : List Int} (h : okUb l = true) : bits_Turn.f l = some (turnR l) := by
  unfold bits_Turn.f turnR
  rw [if_pos h]
  split <;> rfl
end Go.Proofs.Ytlbjcmiegbejdaa.Q
