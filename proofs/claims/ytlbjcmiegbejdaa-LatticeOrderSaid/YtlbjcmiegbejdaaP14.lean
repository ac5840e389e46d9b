/- Layer 2, plain: in the order each label stands once, behind all that are below it. -/
import Derived.Test.YtlbjcmiegbejdaaP13
namespace Go.Proofs.Ytlbjcmiegbejdaa.Q
open Go.RowKit Go.Proofs.YtlbjcmiegbejdaaW.PrintWords Go.Proofs.YtlbjcmiegbejdaaW.PrintMore Go.Proofs.YtlbjcmiegbejdaaW.PrintLast Go.Proofs.Ytlbjcmiegbejdaa.Bm
set_option linter.unusedVariables false
set_option linter.unusedSimpArgs false
theorem rd_cast {L : List Nat} {i : Nat} (hi : i < L.length) : rd (L.map (fun a : Nat => (a : Int))) (i : Int) = ((L[i] : Nat) : Int) := by
  unfold rd
  rw [Int.toNat_natCast, List.getD_eq_getElem?_getD, List.getElem?_map, List.getElem?_eq_getElem hi]
  rfl
section
variable {l : List Int} (h : okUb l = true) (hs : shp l = 0)
include h hs
theorem lo_l1 {L : List Nat} {i a left seen : Nat} (hi : i < L.length) (hLn : L.length = l.length) (hLi : L[i] = a) (ha : a < l.length) (hM : Min l left a) (hsn : seen < 2 ^ l.length) (hc : ∀ b, b < l.length → seen.testBit b = !left.testBit b) {r : Bool}
    (hn : Ev (fun k => rampartlaw02_LatticeOrder.l0 k l (L.map (fun a : Nat => (a : Int))) ((seen ||| 2 ^ a : Nat) : Int) ((i + 1 : Nat) : Int)) r) :
    ∀ (d b : Nat), l.length - b = d → b ≤ l.length → Ev (fun k => rampartlaw02_LatticeOrder.l1 k l (L.map (fun a : Nat => (a : Int))) (seen : Int) (i : Int) (b : Int)) r := by
  intro d b hd hb
  have h16 := (shp_zero hs).1
  have hlU := okU_of h
  have hs64 : seen < 2 ^ 64 := pow64 (by omega) hsn
  have hlen : (L.map (fun a : Nat => (a : Int))).length = L.length := List.length_map _
  have hrd := rd_cast (L := L) hi
  rw [hLi] at hrd
  induction d generalizing b with
  | zero =>
    obtain rfl : b = l.length := by omega
    have c3 : IntKind.u64.wrap (a : Int) = (a : Int) := wu64 (by omega) (by omega)
    have c4 : bits .or .u64 (seen : Int) ((2 ^ a : Nat) : Int) = ((seen ||| 2 ^ a : Nat) : Int) := or_u64 hs64 (Nat.pow_lt_pow_right (by decide) (by omega))
    refine Ev.step (fun k => ?_) hn
    simp only [rampartlaw02_LatticeOrder.l1]
    rw [if_neg (by omega), if_pos (by omega), if_pos (by omega), hrd, c3, if_pos (by omega), shl_one' (by omega), c4, w64_inc (by omega)]
  | succ d ih =>
    have hbl : b < l.length := by omega
    have ih' := ih (b + 1) (by omega) (by omega)
    refine Ev.step (f := fun k => (rampartref01_Has.f k ((rowsF l b : Nat) : Int) (a : Int)).bind fun t => if t = true then ((rampartref01_Has.f k ((rowsF l a : Nat) : Int) (b : Int)).bind fun t => if t = true then rampartlaw02_LatticeOrder.l1 k l (L.map (fun a : Nat => (a : Int))) (seen : Int) (i : Int) ((b + 1 : Nat) : Int) else ((rampartref01_Has.f k (seen : Int) (b : Int)).bind fun t => if t = true then rampartlaw02_LatticeOrder.l1 k l (L.map (fun a : Nat => (a : Int))) (seen : Int) (i : Int) ((b + 1 : Nat) : Int) else some false)) else rampartlaw02_LatticeOrder.l1 k l (L.map (fun a : Nat => (a : Int))) (seen : Int) (i : Int) ((b + 1 : Nat) : Int)) (fun k => ?_) (Ev.bind (has_nat (okU_at hlU hbl).2 (by omega)) ?_)
    · have c1 : (0 : Int) ≤ (a : Int) := by omega
      have c2 : (a : Int) < (l.length : Int) := by omega
      simp only [rampartlaw02_LatticeOrder.l1]
      rw [if_pos (by omega), if_pos (by omega), if_pos (by omega), if_pos (by omega), hrd, rd_rows hlU hbl, rd_rows hlU ha, w64_inc (by omega)]
      simp only [if_pos c1, if_pos c2]
    · cases h1 : (rowsF l b).testBit a with
      | false => exact Ev.congr (fun k => if_neg (by simp)) ih'
      | true =>
        refine Ev.congr (fun k => if_pos rfl) (Ev.bind (has_nat (okU_at hlU ha).2 (by omega)) ?_)
        cases h2 : (rowsF l a).testBit b with
        | true => exact Ev.congr (fun k => if_pos rfl) ih'
        | false =>
          have h3 := has_nat hs64 (i := b) (by omega)
          rw [hc b hbl, hM b hbl h1 h2] at h3
          exact Ev.congr (fun k => if_neg (by simp)) (Ev.bind h3 (Ev.congr (fun k => if_pos rfl) ih'))
theorem lo_l0 {L : List Nat} (hLn : L.length = l.length) : ∀ (d i left seen : Nat), L.length - i = d → i ≤ L.length → left < 2 ^ l.length → Ord l left (L.drop i) → seen < 2 ^ l.length → (∀ b, b < l.length → seen.testBit b = !left.testBit b) →
    Ev (fun k => rampartlaw02_LatticeOrder.l0 k l (L.map (fun a : Nat => (a : Int))) (seen : Int) (i : Int)) true
  | 0, i, left, seen, hd, hi, hl, hO, hsn, hc => by
    obtain rfl : i = L.length := by omega
    have hlen : (L.map (fun a : Nat => (a : Int))).length = L.length := List.length_map _
    refine Ev.step (f := fun _ => some true) (fun k => ?_) (Ev.now _)
    simp only [rampartlaw02_LatticeOrder.l0]
    rw [if_neg (by omega)]
    have e : (((L.map (fun a : Nat => (a : Int))).length : Int) == (l.length : Int)) = true := beq_iff_eq.2 (by omega)
    rw [e]
  | d + 1, i, left, seen, hd, hi, hl, hO, hsn, hc => by
    have hil : i < L.length := by omega
    have h16 := (shp_zero hs).1
    have hs64 : seen < 2 ^ 64 := pow64 (by omega) hsn
    have hl64 : left < 2 ^ 64 := pow64 (by omega) hl
    have hlen : (L.map (fun a : Nat => (a : Int))).length = L.length := List.length_map _
    rw [List.drop_eq_getElem_cons hil] at hO
    obtain ⟨a, hLi⟩ : ∃ a, L[i] = a := ⟨_, rfl⟩
    have hrd := rd_cast (L := L) hil
    rw [hLi] at hO hrd
    cases hO with
    | cons ha hla hM hO' =>
      have ih := lo_l0 hLn d (i + 1) (less left a) (seen ||| 2 ^ a) (by omega) (by omega) (less_lt hl) hO' (Nat.or_lt_two_pow hsn (Nat.pow_lt_pow_right (by decide) ha)) (fun b hb => by
        rw [Nat.testBit_or, Nat.testBit_two_pow, less_bit (by omega) hl64, hc b hb]
        by_cases hab : a = b
        · rw [decide_eq_true hab]; simp
        · rw [decide_eq_false hab]; simp)
      have h1 := lo_l1 h hs hil hLn hLi ha hM hsn hc ih l.length 0 (by omega) (by omega)
      have h3 := has_nat hs64 (i := a) (by omega)
      rw [hc a ha, hla] at h3
      refine Ev.step (f := fun k => (rampartref01_Has.f k (seen : Int) (a : Int)).bind fun t => if t = true then some false else rampartlaw02_LatticeOrder.l1 k l (L.map (fun a : Nat => (a : Int))) (seen : Int) (i : Int) 0) (fun k => ?_) (Ev.bind h3 (Ev.congr (fun k => if_neg (by simp)) h1))
      simp only [rampartlaw02_LatticeOrder.l0]
      rw [if_pos (by omega), if_pos (by omega), hrd, if_neg (by omega), if_neg (by omega)]
end
theorem orders_ev {l0 : List Int} (h : okUb (l0.take 17) = true) : Ev (fun k => rampartlaw02_LatticeOrder.f k l0) true := by
  unfold rampartlaw02_LatticeOrder.f
  refine Ev.bind awake_ev (Ev.congr (fun k => if_pos rfl) ?_)
  simp only [Option.bind_some]
  generalize l0.take 17 = l at h ⊢
  obtain ⟨v, e1, _, _, hne, hz⟩ := order_ev h
  refine Ev.bind e1 ?_
  by_cases h0 : v.2 = 0
  · refine Ev.congr (fun k => if_pos h0) ?_
    obtain ⟨hs, L, hO, hLl, hv⟩ := hz h0
    have hpw := Nat.two_pow_pos l.length
    rw [hv]
    exact lo_l0 h hs hLl L.length 0 (2 ^ l.length - 1) 0 (by omega) (by omega) (by omega) hO hpw (fun b hb => by rw [Nat.zero_testBit, Nat.testBit_two_pow_sub_one, decide_eq_true hb]; rfl)
  · refine Ev.congr (f := fun _ => some true) (fun k => ?_) (Ev.now _)
    rw [if_neg h0, hne h0]
    rfl
end Go.Proofs.Ytlbjcmiegbejdaa.Q
