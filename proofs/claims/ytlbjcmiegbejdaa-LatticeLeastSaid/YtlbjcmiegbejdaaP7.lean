/- Layer 2, plain: a join is the least upper bound; the turned policy's meets. -/
import Derived.Test.YtlbjcmiegbejdaaQx14
import Derived.Test.YtlbjcmiegbejdaaP4
namespace Go.Proofs.Ytlbjcmiegbejdaa.Q
open Go.RowKit Go.Proofs.YtlbjcmiegbejdaaW.PrintWords Go.Proofs.YtlbjcmiegbejdaaW.PrintMore Go.Proofs.YtlbjcmiegbejdaaW.PrintLast Go.Proofs.Ytlbjcmiegbejdaa.Bm
set_option linter.unusedVariables false
set_option linter.unusedSimpArgs false
section
variable {l : List Int} (h : okUb l = true) (hc : chk l = 0) {a b : Nat} (ha : a < l.length) (hb : b < l.length)
include h hc ha hb
theorem least_end {r : Bool} (k0 : Nat) : Ev (fun k => (rampartref01_Turn.f k l).bind fun bt => (lattice_Meets.f bt.1 (a : Int) (b : Int)).bind fun bu => if bu.2 = 0 then (if bu.1 = ((jnS l a b : Nat) : Int) then (if (0 : Int) ≤ (a : Int) then (if (a : Int) < (l.length : Int) then ((rampartref01_Has.f k (rd l (a : Int)) (b : Int)).bind fun t269 => (if t269 = true then ((rampartref01_Has.f k ((jnS l a b : Nat) : Int) (b : Int)).bind fun t270 => (if t270 = true then (if 0 ≤ (IntKind.u64.wrap ((l.length : Int))) then (some ((shr .u64 ((jnS l a b : Nat) : Int) (IntKind.u64.wrap ((l.length : Int)))) == 0)) else (none)) else (some false))) else (if 0 ≤ (IntKind.u64.wrap ((l.length : Int))) then (some ((shr .u64 ((jnS l a b : Nat) : Int) (IntKind.u64.wrap ((l.length : Int)))) == 0)) else (none)))) else (none)) else (none)) else (some false)) else (some false)) true := by
  obtain ⟨hs, hP⟩ := chk_zero hc
  obtain ⟨h16, h0, he, hn⟩ := shp_zero hs
  have ht := turn_ev (okU_of h)
  rw [turnR_ok he] at ht
  have htl := turnL_len l
  have hjl := jnS_lt l a b
  have hj64 : jnS l a b < 2 ^ 64 := pow64 (by omega) hjl
  refine Ev.bind ht ?_
  have hm : lattice_Meets.f (turnL l) (a : Int) (b : Int) = some (((jnS l a b : Nat) : Int), 0) := by
    rw [Meets_b (turnL_ok (by omega)), turnL_chk hc, turnL_twice h hs]
    have hask : askE (turnL l) (a : Int) (b : Int) 0 = 0 := by
      unfold askE
      rw [if_pos rfl, if_neg (by rw [htl]; omega)]
    rw [hask]
    rfl
  refine Ev.congr (f := fun k => (rampartref01_Has.f k ((rowsF l a : Nat) : Int) (b : Int)).bind fun t269 => (if t269 = true then ((rampartref01_Has.f k ((jnS l a b : Nat) : Int) (b : Int)).bind fun t270 => (if t270 = true then some true else some false)) else some true)) (fun k => ?_) (Ev.bind (has_nat (okU_at (okU_of h) ha).2 (by omega)) ?_)
  · have c1 : IntKind.u64.wrap (l.length : Int) = (l.length : Int) := wu64 (by omega) (by omega)
    have c2 : (shr .u64 ((jnS l a b : Nat) : Int) (l.length : Int) == 0) = true := by
      have e : shr .u64 ((jnS l a b : Nat) : Int) (l.length : Int) = 0 := by
        show ((jnS l a b : Nat) : Int) / 2 ^ min ((l.length : Int).toNat) 64 = 0
        rw [Int.toNat_natCast, Nat.min_eq_left (by omega)]
        have h2 : jnS l a b / 2 ^ l.length = 0 := Nat.div_eq_of_lt hjl
        have h3 : ((jnS l a b / 2 ^ l.length : Nat) : Int) = 0 := by rw [h2]; rfl
        rw [Int.natCast_ediv, Int.natCast_pow] at h3
        exact h3
      rw [e]
      rfl
    show ((lattice_Meets.f (turnL l) (a : Int) (b : Int)).bind _) = _
    rw [hm, Option.bind_some]
    have c0 : (0 : Int) ≤ (l.length : Int) := by omega
    have ca : (a : Int) < (l.length : Int) := by omega
    have ca0 : (0 : Int) ≤ (a : Int) := by omega
    simp only [if_pos, c1, c2, if_pos c0, if_pos ca, if_pos ca0, rd_rows (okU_of h) ha]
  · cases hab : (rowsF l a).testBit b with
    | false => exact Ev.congr (fun k => if_neg (by simp)) (Ev.now _)
    | true =>
      refine Ev.congr (fun k => if_pos rfl) ?_
      have hjb : (jnS l a b).testBit b = true := jnS_bit.2 ⟨hb, hab, (hP b hb).1, fun d _ hd => hd⟩
      have := has_nat hj64 (i := b) (by omega)
      rw [hjb] at this
      exact Ev.bind this (Ev.congr (fun k => if_pos rfl) (Ev.now _))
theorem least_l1 {c : Nat} (hcn : c < l.length) (hj : IsJoin (rowsF l) l.length a b c) {r : Bool} (hr : Ev (fun k => rampartlaw02_LatticeLeast.l0 k l (a : Int) (b : Int) ((jnS l a b : Nat) : Int) ((c + 1 : Nat) : Int)) r) :
    ∀ (d i : Nat), l.length - i = d → i ≤ l.length → Ev (fun k => rampartlaw02_LatticeLeast.l1 k l (a : Int) (b : Int) ((jnS l a b : Nat) : Int) (c : Int) (i : Int)) r
  | 0, i, hd, hi => by
    obtain rfl : i = l.length := by omega
    obtain ⟨hs, hP⟩ := chk_zero hc
    have h16 := (shp_zero hs).1
    refine Ev.step (fun k => ?_) hr
    simp only [rampartlaw02_LatticeLeast.l1]
    rw [if_neg (by omega), w64_inc (by omega)]
  | d + 1, i, hd, hi => by
    have ih := least_l1 hcn hj hr d (i + 1) (by omega) (by omega)
    obtain ⟨hs, hP⟩ := chk_zero hc
    have h16 := (shp_zero hs).1
    have hl := okU_of h
    refine Ev.step (f := fun k => (rampartref01_Has.f k ((rowsF l a : Nat) : Int) (i : Int)).bind fun t => if t = true then ((rampartref01_Has.f k ((rowsF l b : Nat) : Int) (i : Int)).bind fun t => if t = true then ((rampartref01_Has.f k ((rowsF l c : Nat) : Int) (i : Int)).bind fun t => if t = true then rampartlaw02_LatticeLeast.l1 k l (a : Int) (b : Int) ((jnS l a b : Nat) : Int) (c : Int) ((i + 1 : Nat) : Int) else some false) else rampartlaw02_LatticeLeast.l1 k l (a : Int) (b : Int) ((jnS l a b : Nat) : Int) (c : Int) ((i + 1 : Nat) : Int)) else rampartlaw02_LatticeLeast.l1 k l (a : Int) (b : Int) ((jnS l a b : Nat) : Int) (c : Int) ((i + 1 : Nat) : Int)) (fun k => ?_) (Ev.bind (has_nat (okU_at hl ha).2 (by omega)) ?_)
    · have c1 : (0 : Int) ≤ (a : Int) := by omega
      have c2 : (a : Int) < (l.length : Int) := by omega
      have c3 : (0 : Int) ≤ (b : Int) := by omega
      have c4 : (b : Int) < (l.length : Int) := by omega
      have c5 : (0 : Int) ≤ (c : Int) := by omega
      have c6 : (c : Int) < (l.length : Int) := by omega
      simp only [rampartlaw02_LatticeLeast.l1]
      rw [if_pos (by omega)]
      simp only [if_pos c1, if_pos c2, if_pos c3, if_pos c4, if_pos c5, if_pos c6, rd_rows hl ha, rd_rows hl hb, rd_rows hl hcn]
      rw [w64_inc (by omega)]
    · cases h1 : (rowsF l a).testBit i with
      | false => exact Ev.congr (fun k => if_neg (by simp)) ih
      | true =>
        refine Ev.congr (fun k => if_pos rfl) (Ev.bind (has_nat (okU_at hl hb).2 (by omega)) ?_)
        cases h2 : (rowsF l b).testBit i with
        | false => exact Ev.congr (fun k => if_neg (by simp)) ih
        | true =>
          have h3 := has_nat (okU_at hl hcn).2 (i := i) (by omega)
          rw [hj.2.2.2 i h1 h2] at h3
          exact Ev.congr (fun k => if_pos rfl) (Ev.bind h3 (Ev.congr (fun k => if_pos rfl) ih))
theorem least_l0 : ∀ (d i : Nat), l.length - i = d → i ≤ l.length → Ev (fun k => rampartlaw02_LatticeLeast.l0 k l (a : Int) (b : Int) ((jnS l a b : Nat) : Int) (i : Int)) true
  | 0, i, hd, hi => by
    obtain rfl : i = l.length := by omega
    refine Ev.step (fun k => ?_) (least_end h hc ha hb (r := true) 0)
    simp only [rampartlaw02_LatticeLeast.l0]
    rw [if_neg (by omega)]
  | d + 1, i, hd, hi => by
    have ih := least_l0 d (i + 1) (by omega) (by omega)
    obtain ⟨hs, hP⟩ := chk_zero hc
    have h16 := (shp_zero hs).1
    have hl := okU_of h
    have hj64 : jnS l a b < 2 ^ 64 := pow64 (by omega) (jnS_lt l a b)
    refine Ev.step (f := fun k => (rampartref01_Has.f k ((jnS l a b : Nat) : Int) (i : Int)).bind fun t => if t = true then ((rampartref01_Has.f k ((rowsF l a : Nat) : Int) (i : Int)).bind fun t => if t = true then ((rampartref01_Has.f k ((rowsF l b : Nat) : Int) (i : Int)).bind fun t => if t = true then rampartlaw02_LatticeLeast.l1 k l (a : Int) (b : Int) ((jnS l a b : Nat) : Int) (i : Int) 0 else some false) else some false) else rampartlaw02_LatticeLeast.l0 k l (a : Int) (b : Int) ((jnS l a b : Nat) : Int) ((i + 1 : Nat) : Int)) (fun k => ?_) (Ev.bind (has_nat hj64 (by omega)) ?_)
    · have c1 : (0 : Int) ≤ (a : Int) := by omega
      have c2 : (a : Int) < (l.length : Int) := by omega
      have c3 : (0 : Int) ≤ (b : Int) := by omega
      have c4 : (b : Int) < (l.length : Int) := by omega
      simp only [rampartlaw02_LatticeLeast.l0]
      rw [if_pos (by omega)]
      simp only [if_pos c1, if_pos c2, if_pos c3, if_pos c4, rd_rows hl ha, rd_rows hl hb]
      rw [w64_inc (by omega)]
    · cases h1 : (jnS l a b).testBit i with
      | false => exact Ev.congr (fun k => if_neg (by simp)) ih
      | true =>
        have hj := jnS_bit.1 h1
        have h2 := has_nat (okU_at hl ha).2 (i := i) (by omega)
        have h3 := has_nat (okU_at hl hb).2 (i := i) (by omega)
        rw [hj.2.1] at h2
        rw [hj.2.2.1] at h3
        refine Ev.congr (fun k => if_pos rfl) (Ev.bind h2 (Ev.congr (fun k => if_pos rfl) (Ev.bind h3 (Ev.congr (fun k => if_pos rfl) ?_))))
        exact least_l1 h hc ha hb (by omega) hj ih l.length 0 (by omega) (by omega)
end
theorem least_ev {l0 : List Int} (h : okUb (l0.take 17) = true) (a b : Int) : Ev (fun k => rampartlaw02_LatticeLeast.f k l0 a b) true := by
  unfold rampartlaw02_LatticeLeast.f
  refine Ev.bind awake_ev (Ev.congr (fun k => if_pos rfl) ?_)
  simp only [Option.bind_some, Joins_b h]
  generalize l0.take 17 = l at h ⊢
  by_cases hask : askE l a b (chk l) = 0
  · obtain ⟨he, a0, a1, b0, b1⟩ := asked_zero hask
    obtain ⟨i, rfl⟩ := Int.eq_ofNat_of_zero_le a0
    obtain ⟨j, rfl⟩ := Int.eq_ofNat_of_zero_le b0
    rw [hask]
    refine Ev.congr (fun k => if_pos rfl) ?_
    exact least_l0 h he (by omega) (by omega) l.length 0 (by omega) (by omega)
  · refine Ev.congr (f := fun _ => some true) (fun k => ?_) (Ev.now _)
    rw [if_neg hask]
    unfold bndV
    rw [if_neg hask]
    rfl
end Go.Proofs.Ytlbjcmiegbejdaa.Q
