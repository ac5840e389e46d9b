/- Layer 18: what each function tells, in plain words. -/
import Derived.Test.YtkkgnmfahhkajaaV
import Derived.Test.YtkkgnmfahhkajaaP3
import Derived.Test.YtkkgnmfahhkajaaQx0
import Derived.Test.YtkkgnmfahhkajaaF8a
import Derived.Test.YtkkgnmfahhkajaaF8b
import Derived.Test.YtkkgnmfahhkajaaF8c
import Derived.Test.YtkkgnmfahhkajaaF8d
import Derived.Test.YtkkgnmfahhkajaaF8e
import Derived.Test.YtkkgnmfahhkajaaF8f
namespace Go.Proofs.Ytkkgnmfahhkajaa.Q
open Go.RowKit Go.Proofs.YtkkgnmfahhkajaaW.PrintWords Go.Proofs.YtkkgnmfahhkajaaW.PrintMore
set_option linter.unusedVariables false
set_option linter.unusedSimpArgs false
theorem add8 (w : World) (a b : Int) (A : Option Addr) (c : Nat) (l : List S42) (r : S29) (hr : Kd.C k42 w A l.length l) (hc : l.length ≤ c) (hl : l.length ≤ 10) (x y n e : Int) (L : List S42) (hV : addV a b l r = (x, y, L, n, e)) : Calls Try.prog 8 #[.agg #[.int .i64 a, .int .i64 b, .slice A l.length c], .agg #[.int .u8 r.f0, .int .u8 r.f1, .int .u8 r.f2, .int .u32 r.f3, .int .u64 r.f4]] w fun e' w' => ∃ A' c', e' = .returned (.tuple #[.agg #[.int .i64 x, .int .i64 y, .slice A' L.length c'], .int .i64 n, .int .i64 e]) ∧ L.length ≤ c' ∧ Kd.C k42 w' A' L.length L ∧ (∀ ad_, A' = some ad_ → w.heap.size ≤ ad_.block) ∧ Below w.heap.size w w' := by
  have h := add_a a b l r hl 40 (by omega)
  rw [hV] at h
  refine (pend_Add.calls 40 a b A c l r.f0 r.f1 r.f2 r.f3 r.f4 x y L n e w hr hc h).mono ?_
  rintro e' w' ⟨v, rfl, h2, h3⟩
  obtain ⟨A_, c_, rfl, h_, hC_⟩ := Kd.R_reads h2
  exact ⟨A_, c_, rfl, h_, hC_, fun ad_ e_ => Kd.R_base h2 _ (by rw [e_]; rfl), h3⟩
theorem full11 (w : World) (a b : Int) (A : Option Addr) (c : Nat) (l : List S42) (hr : Kd.C k42 w A l.length l) (hc : l.length ≤ c) (hl : l.length ≤ 10) (v : Bool) (hV : (if chkV a b l = 0 then (l.length : Int) == a else false) = v) : Calls Try.prog 11 #[.agg #[.int .i64 a, .int .i64 b, .slice A l.length c]] w fun e w' => e = .returned (.bool v) ∧ Below w.heap.size w w' := by
  have h := full_a a b l hl 40 (by omega)
  rw [hV] at h
  exact pend_Full.calls 40 a b A c l v w hr hc h
theorem work18 (w : World) (a b : Int) (A : Option Addr) (c : Nat) (l : List S42) (hr : Kd.C k42 w A l.length l) (hc : l.length ≤ c) (hl : l.length ≤ 10) (v : Int) (hV : workV a b l = v) : Calls Try.prog 18 #[.agg #[.int .i64 a, .int .i64 b, .slice A l.length c]] w fun e w' => e = .returned (.int .i64 v) ∧ Below w.heap.size w w' := by
  have h := work_a a b l hl 40 (by omega)
  rw [hV] at h
  exact pend_Work.calls 40 a b A c l v w hr hc h
theorem check23 (w : World) (a b : Int) (A : Option Addr) (c : Nat) (l : List S42) (hr : Kd.C k42 w A l.length l) (hc : l.length ≤ c) (hl : l.length ≤ 10) (v : Int) (hV : chkV a b l = v) : Calls Try.prog 23 #[.agg #[.int .i64 a, .int .i64 b, .slice A l.length c]] w fun e w' => e = .returned (.int .i64 v) ∧ Below w.heap.size w w' := by
  have h := check_a a b l hl 40 (by omega)
  rw [hV] at h
  exact pend_Check.calls 40 a b A c l v w hr hc h
theorem rcheck21 (w : World) (a b : Int) (A : Option Addr) (c : Nat) (l : List S42) (hr : Kd.C k42 w A l.length l) (hc : l.length ≤ c) (hl : l.length ≤ 10) (v : Int) (hV : chkV a b l = v) : Calls Try.prog 21 #[.agg #[.int .i64 a, .int .i64 b, .slice A l.length c]] w fun e w' => e = .returned (.int .i64 v) ∧ Below w.heap.size w w' := by
  have h := check_b a b l hl 40 (by omega)
  rw [hV] at h
  exact rampartref18_Check.calls 40 a b A c l v w hr hc h
theorem get14 (w : World) (a b : Int) (A : Option Addr) (c : Nat) (l : List S42) (n : Int) (hr : Kd.C k42 w A l.length l) (hc : l.length ≤ c) (hl : l.length ≤ 10) (o : S42) (v : Bool) (hV : getV a b l n = (o, v)) : Calls Try.prog 14 #[.agg #[.int .i64 a, .int .i64 b, .slice A l.length c], .int .i64 n] w fun e w' => e = .returned (.tuple #[.agg #[.int .i64 o.f0, .int .u8 o.f1.f0, .int .u8 o.f1.f1, .int .u8 o.f1.f2, .int .u32 o.f1.f3, .int .u64 o.f1.f4, .int .i64 o.f2, .int .i64 o.f3, .int .i64 o.f4, .int .u64 o.f5.f0, .int .u64 o.f5.f1, .int .u64 o.f6], .bool v]) ∧ Below w.heap.size w w' := by
  have h := get_a a b n l hl 40 (by omega)
  rw [hV] at h
  exact pend_Get.calls 40 a b A c l n o.f0 o.f1.f0 o.f1.f1 o.f1.f2 o.f1.f3 o.f1.f4 o.f2 o.f3 o.f4 o.f5.f0 o.f5.f1 o.f6 v w hr hc h
theorem C_far {W : World} {A : Option Addr} {n : Nat} {L : List S42} {p : Addr} (h : Kd.C k42 W A n L) (hp : ∀ ad, A = some ad → p.block ≠ ad.block) (u : Value) : Kd.C k42 (W.setCell p u) A n L := by
  refine ⟨h.1, h.2.1, fun hn => ?_⟩
  obtain ⟨ad, e, hc⟩ := h.2.2 hn
  refine ⟨ad, e, fun j q hj => ?_⟩
  obtain ⟨c, h1, h2, h3⟩ := hc j q hj
  exact ⟨c, h1, h2, fun i v hv => (World.cell?_of_block (Below.heap_setCell W p u _ (by rw [show (ad.add (j * k42.sz + i)).block = ad.block from by unfold Addr.add; split <;> rfl]; exact (hp ad e).symm))).trans (h3 i v hv)⟩
theorem new20 (w : World) (n x y e : Int) (L : List S42) (hV : (if 1 ≤ n ∧ n ≤ 4 then (n, 1, ([] : List S42), (0 : Int)) else (0, 0, [], 180)) = (x, y, L, e)) : Calls Try.prog 20 #[.int .i64 n] w fun e' w' => ∃ A' c', e' = .returned (.tuple #[.agg #[.int .i64 x, .int .i64 y, .slice A' L.length c'], .int .i64 e]) ∧ L.length ≤ c' ∧ Kd.C k42 w' A' L.length L ∧ (∀ ad_, A' = some ad_ → w.heap.size ≤ ad_.block) ∧ Below w.heap.size w w' := by
  have h := newp_a n 40 (by omega)
  rw [hV] at h
  refine (pend_New.calls 40 n x y L e w h).mono ?_
  rintro e' w' ⟨v, rfl, h2, h3⟩
  obtain ⟨A_, c_, rfl, h_, hC_⟩ := Kd.R_reads h2
  exact ⟨A_, c_, rfl, h_, hC_, fun ad_ e_ => Kd.R_base h2 _ (by rw [e_]; rfl), h3⟩
theorem set16 (w : World) (a b : Int) (A : Option Addr) (c : Nat) (l : List S42) (o : S42) (hr : Kd.C k42 w A l.length l) (hc : l.length ≤ c) (hl : l.length ≤ 10) (x y e : Int) (L : List S42) (hV : setV a b l o = (x, y, L, e)) : Calls Try.prog 16 #[.agg #[.int .i64 a, .int .i64 b, .slice A l.length c], .agg #[.int .i64 o.f0, .int .u8 o.f1.f0, .int .u8 o.f1.f1, .int .u8 o.f1.f2, .int .u32 o.f1.f3, .int .u64 o.f1.f4, .int .i64 o.f2, .int .i64 o.f3, .int .i64 o.f4, .int .u64 o.f5.f0, .int .u64 o.f5.f1, .int .u64 o.f6]] w fun e' w' => ∃ A' c', e' = .returned (.tuple #[.agg #[.int .i64 x, .int .i64 y, .slice A' L.length c'], .int .i64 e]) ∧ L.length ≤ c' ∧ Kd.C k42 w' A' L.length L ∧ (∀ ad_, A' = some ad_ → w.heap.size ≤ ad_.block) ∧ Below w.heap.size w w' := by
  have hk := check_a a b l hl 40 (by omega)
  have hnil : ∀ (W : World) (e2 : Int), (∃ A' c', Ending.returned (.tuple #[.agg #[.int .i64 0, .int .i64 0, .slice none 0 0], .int .i64 e2]) = .returned (.tuple #[.agg #[.int .i64 0, .int .i64 0, .slice A' ([] : List S42).length c'], .int .i64 e2]) ∧ ([] : List S42).length ≤ c' ∧ Kd.C k42 W A' ([] : List S42).length [] ∧ (∀ ad_, A' = some ad_ → w.heap.size ≤ ad_.block)) := fun W e2 => ⟨none, 0, rfl, Nat.le_refl _, Kd.C_nil _ _, fun ad_ e_ => by cases e_⟩
  unfold setV at hV
  by_cases h : chkV a b l = 0
  · rw [if_pos h] at hV
    rw [h] at hk
    rcases place_cases l o.f0 with ep | ⟨i, ep, hi, _⟩
    · rw [ep, if_pos (by decide)] at hV
      simp only [Prod.mk.injEq] at hV
      obtain ⟨rfl, rfl, rfl, rfl⟩ := hV
      refine (set_b w 40 a b A c l o hr hc hk (-1) (congrArg some ep) (by omega)).mono ?_
      rintro e' w' ⟨rfl, h3⟩
      obtain ⟨A', c', q1, q2, q3, q4⟩ := hnil w' 182
      exact ⟨A', c', q1, q2, q3, q4, h3⟩
    · have e0 : ¬ (i : Int) < 0 := by omega
      have hp : pend_place.f a b l o.f0 = some (i : Int) := congrArg some ep
      rw [ep, if_neg e0, Int.toNat_natCast] at hV
      by_cases h7 : o.f2 = 7
      · rw [if_pos h7] at hV
        simp only [Prod.mk.injEq] at hV
        obtain ⟨rfl, rfl, hL, rfl⟩ := hV
        by_cases hm : i + 1 < l.length
        · refine (set_c_mid w 40 a b A c l o hr hc hk i hi hp (by omega) h7 hm L hL.symm).mono ?_
          rintro e' w' ⟨A', c', rfl, q2, q3, q4, h3⟩
          exact ⟨A', c', rfl, q2, q3, q4, h3⟩
        · rw [List.drop_eq_nil_of_le (by omega), List.append_nil] at hL
          refine (set_c_last w 40 a b A c l o hr hc hk i hi hp (by omega) h7 (by omega) L hL.symm).mono ?_
          rintro e' w' ⟨A', c', rfl, q2, q3, q4, h3⟩
          exact ⟨A', c', rfl, q2, q3, q4, h3⟩
      · rw [if_neg h7] at hV
        have hlf := left_a' o 40 (by omega)
        by_cases h8 : leftV o = 0
        · rw [if_pos h8] at hV
          simp only [Prod.mk.injEq] at hV
          obtain ⟨rfl, rfl, rfl, rfl⟩ := hV
          refine (set_d1 w 40 a b A c l o hr hc hk i hi hp (by omega) h7 _ hlf h8 _ rfl).mono ?_
          rintro e' w' ⟨rfl, h3⟩
          obtain ⟨A', c', q1, q2, q3, q4⟩ := hnil w' 1
          exact ⟨A', c', q1, q2, q3, q4, h3⟩
        · rw [if_neg h8] at hV
          by_cases h9 : reqEq o.f1 (rd_T42 l (i : Int)).f1 = true
          · rw [if_pos h9] at hV
            simp only [Prod.mk.injEq] at hV
            obtain ⟨rfl, rfl, rfl, rfl⟩ := hV
            exact set_e w 40 a b A c l o hr hc hk i hi hp (by omega) h7 _ hlf h8 _ rfl h9
          · rw [if_neg h9] at hV
            simp only [Prod.mk.injEq] at hV
            obtain ⟨rfl, rfl, rfl, rfl⟩ := hV
            refine (set_d2 w 40 a b A c l o hr hc hk i hi hp (by omega) h7 _ hlf h8 _ rfl (Bool.eq_false_iff.2 h9)).mono ?_
            rintro e' w' ⟨rfl, h3⟩
            obtain ⟨A', c', q1, q2, q3, q4⟩ := hnil w' 1
            exact ⟨A', c', q1, q2, q3, q4, h3⟩
  · rw [if_neg h] at hV
    simp only [Prod.mk.injEq] at hV
    obtain ⟨rfl, rfl, rfl, rfl⟩ := hV
    refine (set_a w 40 a b A c l o hr hc _ hk h).mono ?_
    rintro e' w' ⟨rfl, h3⟩
    obtain ⟨A', c', q1, q2, q3, q4⟩ := hnil w' 180
    exact ⟨A', c', q1, q2, q3, q4, h3⟩
end Go.Proofs.Ytkkgnmfahhkajaa.Q
