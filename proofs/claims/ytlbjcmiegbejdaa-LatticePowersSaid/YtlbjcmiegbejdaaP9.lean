/- Layer 2, plain: sets that grow by one. -/
import Derived.Test.YtlbjcmiegbejdaaP4
import Derived.Test.YtlbjcmiegbejdaaQx18
namespace Go.Proofs.Ytlbjcmiegbejdaa.Q
open Go.RowKit Go.Proofs.YtlbjcmiegbejdaaW.PrintWords Go.Proofs.YtlbjcmiegbejdaaW.PrintMore Go.Proofs.YtlbjcmiegbejdaaW.PrintLast Go.Proofs.Ytlbjcmiegbejdaa.Bm
set_option linter.unusedVariables false
set_option linter.unusedSimpArgs false
theorem ofP_yes {p : Nat → Bool} {n : Nat} (h : p n = true) : ofP p (n + 1) = ofP p n ||| 2 ^ n := by
  apply bits_eq (n + 1) (ofP_lt _ _) (Nat.or_lt_two_pow (Nat.lt_of_lt_of_le (ofP_lt _ _) (Nat.pow_le_pow_right (by decide) (by omega))) (Nat.pow_lt_pow_right (by decide) (by omega)))
  intro i hi
  rw [testBit_ofP, Nat.testBit_or, testBit_ofP, Nat.testBit_two_pow]
  rcases Nat.lt_succ_iff_lt_or_eq.1 hi with h1 | rfl
  · rw [decide_eq_true hi, decide_eq_true h1, decide_eq_false (show ¬ n = i by omega), Bool.or_false]
  · rw [decide_eq_true hi, h, decide_eq_true rfl, Bool.or_true]
    rfl
theorem ofP_no {p : Nat → Bool} {n : Nat} (h : p n = false) : ofP p (n + 1) = ofP p n := by
  apply bits_eq (n + 1) (ofP_lt _ _) (Nat.lt_of_lt_of_le (ofP_lt _ _) (Nat.pow_le_pow_right (by decide) (by omega)))
  intro i hi
  rw [testBit_ofP, testBit_ofP]
  rcases Nat.lt_succ_iff_lt_or_eq.1 hi with h1 | rfl
  · rw [decide_eq_true hi, decide_eq_true h1]
  · rw [decide_eq_true hi, h, decide_eq_false (by omega)]
    rfl
theorem shl_one' {i : Nat} (hi : i < 64) : shl .u64 1 (i : Int) = ((2 ^ i : Nat) : Int) := by
  have := wrap_pow (i := i) hi
  simp only [shl, IntKind.bits, Int.toNat_natCast] at *
  rw [Int.one_mul]
  rw [Nat.min_eq_left (by omega)]
  exact this
end Go.Proofs.Ytlbjcmiegbejdaa.Q

/- Layer 2, plain: the policies of subsets and of pairs. -/
namespace Go.Proofs.Ytlbjcmiegbejdaa.Q
open Go.RowKit Go.Proofs.YtlbjcmiegbejdaaW.PrintWords Go.Proofs.YtlbjcmiegbejdaaW.PrintMore Go.Proofs.YtlbjcmiegbejdaaW.PrintLast Go.Proofs.Ytlbjcmiegbejdaa.Bm
set_option linter.unusedVariables false
set_option linter.unusedSimpArgs false
theorem flowC_bit {l : List Int} (hl : okU l) {a b : Nat} (ha : a < l.length) (hb : b < 64) : lattice_policy_flows.f l (a : Int) (b : Int) = some ((rowsF l a).testBit b) := by
  unfold lattice_policy_flows.f
  rw [if_pos (by omega), if_pos (by omega), if_pos (by omega), rd_rows hl ha]
  have hi := (okU_at hl ha).2
  obtain ⟨v, e1, e2, _⟩ := shr_nat hi b
  have e : shr .u64 ((rowsF l a : Nat) : Int) (b : Int) = (v : Int) := by
    rw [← e1]
    show ((rowsF l a : Nat) : Int) / 2 ^ min ((b : Int).toNat) 64 = _
    rw [Int.toNat_natCast, Nat.min_eq_left (by omega)]
  rw [e, e2]
  cases (rowsF l a).testBit b <;> rfl
/-! ### the subsets -/
def powV (a : Int) : List Int × Int := match lattice_Power.f 400 a with
  | some v => v
  | none => ([], 0)
theorem pow_small : ∀ a : Fin 5, lattice_Power.f 400 ((a.val : Nat) : Int) = some (powV ((a.val : Nat) : Int)) ∧ rampartref02_Power.f 400 ((a.val : Nat) : Int) = some (powV ((a.val : Nat) : Int)) ∧ (powV ((a.val : Nat) : Int)).1.length < 1000000 := by
  decide +kernel
theorem power_ev (a : Int) : Ev (fun k => lattice_Power.f k a) (if a < 0 ∨ 4 < a then ([], 5) else powV a) ∧ Ev (fun k => rampartref02_Power.f k a) (if a < 0 ∨ 4 < a then ([], 5) else powV a) ∧ (if a < 0 ∨ 4 < a then (([], 5) : List Int × Int) else powV a).1.length < 1000000 := by
  by_cases h : a < 0 ∨ 4 < a
  · rw [if_pos h]
    refine ⟨?_, ?_, by simp⟩
    · unfold lattice_Power.f
      by_cases h0 : a < 0
      · exact Ev.congr (fun k => if_pos h0) (Ev.now _)
      · exact Ev.congr (fun k => (if_neg h0).trans (if_pos (by omega))) (Ev.now _)
    · unfold rampartref02_Power.f
      by_cases h0 : a < 0
      · exact Ev.congr (fun k => if_pos h0) (Ev.now _)
      · exact Ev.congr (fun k => (if_neg h0).trans (if_pos (by omega))) (Ev.now _)
  · rw [if_neg h]
    obtain ⟨n, rfl⟩ := Int.eq_ofNat_of_zero_le (by omega : 0 ≤ a)
    have := pow_small ⟨n, by omega⟩
    exact ⟨Ev.of (fun k => lattice_Power.mono _ k) this.1, Ev.of (fun k => rampartref02_Power.mono _ k) this.2.1, this.2.2⟩
/-! ### the pairs -/
def prdB (R S : Nat → Nat) (m x y : Nat) : Bool := (R (x / m)).testBit (y / m) && (S (x % m)).testBit (y % m)
def prd (R S : Nat → Nat) (n m x : Nat) : Nat := ofP (prdB R S m x) (n * m)
/-- The rows so far: those below x are there, x has its first y members. -/
def prdT (R S : Nat → Nat) (n m x y : Nat) : Nat → Nat := fun r => if r < x then prd R S n m r else if r = x then ofP (prdB R S m x) y else 0
theorem prdT_yes {R S : Nat → Nat} {n m x y : Nat} (h : prdB R S m x y = true) : upd (prdT R S n m x y) x (prdT R S n m x y x ||| 2 ^ y) = prdT R S n m x (y + 1) := by
  funext r
  unfold upd prdT
  by_cases hr : r = x
  · subst hr
    rw [if_pos rfl, if_neg (by omega), if_pos rfl, if_neg (by omega), if_pos rfl, ofP_yes h]
  · rw [if_neg hr]
    by_cases hx : r < x
    · rw [if_pos hx, if_pos hx]
    · rw [if_neg hx, if_neg hx, if_neg hr, if_neg hr]
theorem prdT_no {R S : Nat → Nat} {n m x y : Nat} (h : prdB R S m x y = false) : prdT R S n m x (y + 1) = prdT R S n m x y := by
  funext r
  unfold prdT
  rw [ofP_no h]
theorem prdT_end {R S : Nat → Nat} {n m x : Nat} : prdT R S n m x (n * m) = prdT R S n m (x + 1) 0 := by
  funext r
  unfold prdT
  by_cases hx : r < x
  · rw [if_pos hx, if_pos (by omega)]
  · rw [if_neg hx]
    by_cases hr : r = x
    · subst hr
      rw [if_pos rfl, if_pos (by omega)]
      rfl
    · rw [if_neg hr, if_neg (by omega)]
      split <;> rfl
theorem prdT_lt (R S : Nat → Nat) {n m x y : Nat} (h : n * m ≤ 64) (hy : y ≤ 64) (r : Nat) : prdT R S n m x y r < 2 ^ 64 := by
  unfold prdT prd
  split
  · exact pow64 h (ofP_lt _ _)
  · split
    · exact pow64 hy (ofP_lt _ _)
    · exact Nat.two_pow_pos _
section
variable {l g : List Int} (hl : okU l) (hg : okU g) (hn : l.length ≤ 16) (hm : g.length ≤ 16) (hm0 : 0 < g.length)
include hl hg hn hm hm0
omit hl hg hm0 in
theorem prod_cast {N : Nat} (hN : N = l.length * g.length) : (l.length : Int) * (g.length : Int) = (N : Int) ∧ N ≤ 256 := by
  have h1 : l.length * g.length ≤ 16 * 16 := Nat.mul_le_mul hn hm
  exact ⟨by rw [hN]; exact (Int.natCast_mul _ _).symm, by omega⟩
omit hl hg hn hm hm0 in
theorem tdiv_n {x m : Nat} (h : x / m < 1000000) : wrap64 (Int.tdiv (x : Int) (m : Int)) = ((x / m : Nat) : Int) := by
  have : Int.tdiv (x : Int) (m : Int) = ((x / m : Nat) : Int) := rfl
  rw [this]
  generalize x / m = q at h
  unfold wrap64
  omega
omit hl hg hm in
theorem prod_nums {N x y : Nat} (hN : N = l.length * g.length) (hx : x < N) (hy : y < N) : ∃ qx qy rx ry : Nat, wrap64 (Int.tdiv (x : Int) (g.length : Int)) = (qx : Int) ∧ wrap64 (Int.tdiv (y : Int) (g.length : Int)) = (qy : Int) ∧ Int.tmod (x : Int) (g.length : Int) = (rx : Int) ∧ Int.tmod (y : Int) (g.length : Int) = (ry : Int) ∧ qx < l.length ∧ qy < l.length ∧ rx < g.length ∧ ry < g.length ∧ ∀ R S, prdB R S g.length x y = ((R qx).testBit qy && (S rx).testBit ry) := by
  have d : ∀ z, z < N → z / g.length < l.length := fun z hz => Nat.div_lt_of_lt_mul (by rw [Nat.mul_comm]; omega)
  have hl16 : ∀ z, z < N → z / g.length < 1000000 := fun z hz => Nat.lt_of_lt_of_le (d z hz) (by omega)
  exact ⟨x / g.length, y / g.length, x % g.length, y % g.length, tdiv_n (hl16 x hx), tdiv_n (hl16 y hy), rfl, rfl, d x hx, d y hy, Nat.mod_lt _ hm0, Nat.mod_lt _ hm0, fun _ _ => rfl⟩
set_option maxHeartbeats 1000000 in
theorem prod_l1 {N : Nat} (hN : N = l.length * g.length) (hN16 : N ≤ 16) {x : Nat} (hx : x < N) {r : List Int × Int} (h : Ev (fun k => lattice_Product.l0 k l g (rowsI (prdT (rowsF l) (rowsF g) l.length g.length x N) N) (N : Int) ((x + 1 : Nat) : Int)) r) :
    ∀ (d y : Nat), N - y = d → y ≤ N → Ev (fun k => lattice_Product.l1 k l g (rowsI (prdT (rowsF l) (rowsF g) l.length g.length x y) N) (x : Int) (N : Int) (x : Int) (N : Int) (y : Int)) r
  | 0, y, hd, hy => by
    obtain rfl : y = N := by omega
    refine Ev.step (fun k => ?_) h
    simp only [lattice_Product.l1]
    rw [if_neg (by omega), w64_inc (by omega)]
  | d + 1, y, hd, hy => by
    have hyN : y < N := by omega
    have ih := prod_l1 hN hN16 hx h d (y + 1) (by omega) (by omega)
    obtain ⟨qx, qy, rx, ry, e1, e2, e3, e4, hxd, hyd, hxm, hym, hB⟩ := prod_nums hn hm0 hN hx hyN
    have hB' := hB (rowsF l) (rowsF g)
    clear hB
    have hlen := rowsI_len (prdT (rowsF l) (rowsF g) l.length g.length x y) N
    have f1 := flowC_bit hl hxd (b := qy) (by omega)
    have f2 := flowC_bit hg hxm (b := ry) (by omega)
    refine Ev.step (f := fun k => if (rowsF l (qx)).testBit (qy) = true then (if (rowsF g (rx)).testBit (ry) = true then lattice_Product.l1 k l g (rowsI (upd (prdT (rowsF l) (rowsF g) l.length g.length x y) x (prdT (rowsF l) (rowsF g) l.length g.length x y x ||| 2 ^ y)) N) (x : Int) (N : Int) (x : Int) (N : Int) ((y + 1 : Nat) : Int) else lattice_Product.l1 k l g (rowsI (prdT (rowsF l) (rowsF g) l.length g.length x y) N) (x : Int) (N : Int) (x : Int) (N : Int) ((y + 1 : Nat) : Int)) else lattice_Product.l1 k l g (rowsI (prdT (rowsF l) (rowsF g) l.length g.length x y) N) (x : Int) (N : Int) (x : Int) (N : Int) ((y + 1 : Nat) : Int)) (fun k => ?_) ?_
    · have c1 : (0 : Int) ≤ (x : Int) := by omega
      have c2 : (x : Int) < ((rowsI (prdT (rowsF l) (rowsF g) l.length g.length x y) N).length : Int) := by omega
      have c3 : (0 : Int) ≤ (y : Int) := by omega
      have c4 : bits .or .u64 ((prdT (rowsF l) (rowsF g) l.length g.length x y x : Nat) : Int) ((2 ^ y : Nat) : Int) = ((prdT (rowsF l) (rowsF g) l.length g.length x y x ||| 2 ^ y : Nat) : Int) := or_u64 (prdT_lt _ _ (by omega) (by omega) x) (Nat.pow_lt_pow_right (by decide) (by omega))
      simp only [lattice_Product.l1]
      rw [if_pos (by omega), if_neg (by omega), e1, e2, e3, e4, f1, f2, w64_inc (by omega), rd_rowsI hx, shl_one' (by omega), c4, Int.toNat_natCast, set_rowsI]
      simp only [Option.bind_some, if_pos c1, if_pos c2, if_pos c3]
    · cases h1 : (rowsF l (qx)).testBit (qy) with
      | false =>
        have hb : prdB (rowsF l) (rowsF g) g.length x y = false := by rw [hB', h1]; rfl
        rw [prdT_no hb] at ih
        exact Ev.congr (fun k => if_neg (by simp)) ih
      | true =>
        refine Ev.congr (fun k => if_pos rfl) ?_
        cases h2 : (rowsF g (rx)).testBit (ry) with
        | false =>
          have hb : prdB (rowsF l) (rowsF g) g.length x y = false := by rw [hB', h1, h2]; rfl
          rw [prdT_no hb] at ih
          exact Ev.congr (fun k => if_neg (by simp)) ih
        | true =>
          have hb : prdB (rowsF l) (rowsF g) g.length x y = true := by rw [hB', h1, h2]; rfl
          rw [← prdT_yes hb] at ih
          exact Ev.congr (fun k => if_pos rfl) ih
theorem prod_l0 {N : Nat} (hN : N = l.length * g.length) (hN16 : N ≤ 16) : ∀ (d x : Nat), N - x = d → x ≤ N → Ev (fun k => lattice_Product.l0 k l g (rowsI (prdT (rowsF l) (rowsF g) l.length g.length x 0) N) (N : Int) (x : Int)) (rowsI (prd (rowsF l) (rowsF g) l.length g.length) N, 0)
  | 0, x, hd, hx => by
    obtain rfl : x = N := by omega
    have e : rowsI (prdT (rowsF l) (rowsF g) l.length g.length x 0) x = rowsI (prd (rowsF l) (rowsF g) l.length g.length) x := rowsI_ext fun i hi => by unfold prdT; rw [if_pos hi]
    rw [e]
    refine Ev.step (f := fun _ => some (rowsI (prd (rowsF l) (rowsF g) l.length g.length) x, 0)) (fun k => ?_) (Ev.now _)
    simp only [lattice_Product.l0]
    rw [if_neg (by omega)]
  | d + 1, x, hd, hx => by
    have hxN : x < N := by omega
    have ih := prod_l0 hN hN16 d (x + 1) (by omega) (by omega)
    rw [← prdT_end, ← hN] at ih
    have := prod_l1 hl hg hn hm hm0 hN hN16 hxN ih N 0 (by omega) (by omega)
    have hlen := rowsI_len (prdT (rowsF l) (rowsF g) l.length g.length x 0) N
    refine Ev.step (fun k => ?_) this
    simp only [lattice_Product.l0]
    rw [if_pos (by omega), hlen]
    rfl
set_option maxHeartbeats 1000000 in
theorem rprod_l1 {N : Nat} (hN : N = l.length * g.length) (hN16 : N ≤ 16) {x : Nat} (hx : x < N) {L : List Int} (hL : L.length ≤ 100) {r : List Int × Int} (h : Ev (fun k => rampartref02_Product.l0 k l g (L ++ [((prd (rowsF l) (rowsF g) l.length g.length x : Nat) : Int)]) ((x + 1 : Nat) : Int)) r) :
    ∀ (d y : Nat), N - y = d → y ≤ N → Ev (fun k => rampartref02_Product.l1 k l g L (x : Int) ((ofP (prdB (rowsF l) (rowsF g) g.length x) y : Nat) : Int) (y : Int)) r
  | 0, y, hd, hy => by
    obtain rfl : y = N := by omega
    have hc := (prod_cast hn hm hN).1
    have hw : wrap64 (y : Int) = (y : Int) := by unfold wrap64; omega
    refine Ev.step (fun k => ?_) h
    simp only [rampartref02_Product.l1]
    rw [hc, hw, if_neg (by omega), if_pos (by omega), w64_inc (by omega)]
    unfold prd
    rw [← hN]
  | d + 1, y, hd, hy => by
    have hyN : y < N := by omega
    have hc := (prod_cast hn hm hN).1
    have hw : wrap64 (N : Int) = (N : Int) := by unfold wrap64; omega
    have ih := rprod_l1 hN hN16 hx hL h d (y + 1) (by omega) (by omega)
    obtain ⟨qx, qy, rx, ry, e1, e2, e3, e4, hxd, hyd, hxm, hym, hB⟩ := prod_nums hn hm0 hN hx hyN
    have hB' := hB (rowsF l) (rowsF g)
    clear hB
    have hofl : ofP (prdB (rowsF l) (rowsF g) g.length x) y < 2 ^ 64 := pow64 (by omega) (ofP_lt _ _)
    have f1 := has_nat (okU_at hl hxd).2 (i := qy) (by omega)
    have f2 := has_nat (okU_at hg hxm).2 (i := ry) (by omega)
    refine Ev.step (f := fun k => (rampartref01_Has.f k ((rowsF l (qx) : Nat) : Int) ((qy : Nat) : Int)).bind fun t => if t = true then ((rampartref01_Has.f k ((rowsF g (rx) : Nat) : Int) ((ry : Nat) : Int)).bind fun t => if t = true then rampartref02_Product.l1 k l g L (x : Int) ((ofP (prdB (rowsF l) (rowsF g) g.length x) y ||| 2 ^ y : Nat) : Int) ((y + 1 : Nat) : Int) else rampartref02_Product.l1 k l g L (x : Int) ((ofP (prdB (rowsF l) (rowsF g) g.length x) y : Nat) : Int) ((y + 1 : Nat) : Int)) else rampartref02_Product.l1 k l g L (x : Int) ((ofP (prdB (rowsF l) (rowsF g) g.length x) y : Nat) : Int) ((y + 1 : Nat) : Int)) (fun k => ?_) (Ev.bind f1 ?_)
    · have c2 : IntKind.u64.wrap (y : Int) = (y : Int) := wu64 (by omega) (by omega)
      have c3 : (0 : Int) ≤ (y : Int) := by omega
      have c4 : bits .or .u64 ((ofP (prdB (rowsF l) (rowsF g) g.length x) y : Nat) : Int) ((2 ^ y : Nat) : Int) = ((ofP (prdB (rowsF l) (rowsF g) g.length x) y ||| 2 ^ y : Nat) : Int) := or_u64 hofl (Nat.pow_lt_pow_right (by decide) (by omega))
      have c5 : (0 : Int) ≤ ((qx : Nat) : Int) := by omega
      have c6 : ((qx : Nat) : Int) < (l.length : Int) := by omega
      have c7 : (0 : Int) ≤ ((rx : Nat) : Int) := by omega
      have c8 : ((rx : Nat) : Int) < (g.length : Int) := by omega
      simp only [rampartref02_Product.l1]
      rw [hc, hw, if_pos (by omega), if_neg (by omega), e1, e2, e3, e4, c2, w64_inc (by omega), rd_rows hl hxd, rd_rows hg hxm, shl_one' (by omega), c4]
      simp only [if_pos c3, if_pos c5, if_pos c6, if_pos c7, if_pos c8]
    · cases h1 : (rowsF l (qx)).testBit (qy) with
      | false =>
        have hb : prdB (rowsF l) (rowsF g) g.length x y = false := by rw [hB', h1]; rfl
        rw [ofP_no hb] at ih
        exact Ev.congr (fun k => if_neg (by simp)) ih
      | true =>
        refine Ev.congr (fun k => if_pos rfl) (Ev.bind f2 ?_)
        cases h2 : (rowsF g (rx)).testBit (ry) with
        | false =>
          have hb : prdB (rowsF l) (rowsF g) g.length x y = false := by rw [hB', h1, h2]; rfl
          rw [ofP_no hb] at ih
          exact Ev.congr (fun k => if_neg (by simp)) ih
        | true =>
          have hb : prdB (rowsF l) (rowsF g) g.length x y = true := by rw [hB', h1, h2]; rfl
          rw [ofP_yes hb] at ih
          exact Ev.congr (fun k => if_pos rfl) ih
theorem rprod_l0 {N : Nat} (hN : N = l.length * g.length) (hN16 : N ≤ 16) : ∀ (d x : Nat), N - x = d → x ≤ N → Ev (fun k => rampartref02_Product.l0 k l g (rowsI (prd (rowsF l) (rowsF g) l.length g.length) x) (x : Int)) (rowsI (prd (rowsF l) (rowsF g) l.length g.length) N, 0)
  | 0, x, hd, hx => by
    obtain rfl : x = N := by omega
    have hc := (prod_cast hn hm hN).1
    have hw : wrap64 (x : Int) = (x : Int) := by unfold wrap64; omega
    refine Ev.step (f := fun _ => some (rowsI (prd (rowsF l) (rowsF g) l.length g.length) x, 0)) (fun k => ?_) (Ev.now _)
    simp only [rampartref02_Product.l0]
    rw [hc, hw, if_neg (by omega)]
  | d + 1, x, hd, hx => by
    have hxN : x < N := by omega
    have hc := (prod_cast hn hm hN).1
    have hw : wrap64 (N : Int) = (N : Int) := by unfold wrap64; omega
    have ih := rprod_l0 hN hN16 d (x + 1) (by omega) (by omega)
    have e : rowsI (prd (rowsF l) (rowsF g) l.length g.length) (x + 1) = rowsI (prd (rowsF l) (rowsF g) l.length g.length) x ++ [((prd (rowsF l) (rowsF g) l.length g.length x : Nat) : Int)] := by
      unfold rowsI
      rw [List.range_succ, List.map_append]
      rfl
    rw [e] at ih
    have hlen := rowsI_len (prd (rowsF l) (rowsF g) l.length g.length) x
    have := rprod_l1 hl hg hn hm hm0 hN hN16 hxN (by omega) ih N 0 (by omega) (by omega)
    refine Ev.step (fun k => ?_) this
    simp only [rampartref02_Product.l0]
    rw [hc, hw, if_pos (by omega)]
    rfl
end
/-- The policy of pairs, by the document. -/
noncomputable def prdR (l g : List Int) : List Int × Int := if chk l = 0 then (if chk g = 0 then (if l.length * g.length ≤ 16 then (rowsI (prd (rowsF l) (rowsF g) l.length g.length) (l.length * g.length), 0) else ([], 3)) else ([], chk g)) else ([], chk l)
theorem product_ev {l g : List Int} (h : okUb l = true) (h' : okUb g = true) : Ev (fun k => lattice_Product.f k l g) (prdR l g) ∧ Ev (fun k => rampartref02_Product.f k l g) (prdR l g) ∧ (prdR l g).1.length < 1000000 := by
  unfold lattice_Product.f rampartref02_Product.f prdR
  simp only [chk_b h, chk_b h', Option.bind_some]
  by_cases h0 : chk l = 0
  · by_cases h1 : chk g = 0
    · simp only [if_pos h0, if_pos h1]
      obtain ⟨h16, _, _, _⟩ := shp_zero (chk_zero h0).1
      obtain ⟨g16, g0, _, _⟩ := shp_zero (chk_zero h1).1
      obtain ⟨N, hN⟩ : ∃ N, N = l.length * g.length := ⟨_, rfl⟩
      obtain ⟨hc, h256⟩ := prod_cast h16 g16 hN
      have hw : wrap64 (N : Int) = (N : Int) := by unfold wrap64; omega
      have hlen := rowsI_len (prd (rowsF l) (rowsF g) l.length g.length) N
      rw [← hN, hc, hw]
      have c1 := chk_ev h
      have c2 := chk_ev h'
      rw [h0] at c1
      rw [h1] at c2
      by_cases h3 : N ≤ 16
      · rw [if_pos h3]
        refine ⟨?_, ?_, by show (rowsI (prd (rowsF l) (rowsF g) l.length g.length) N).length < 1000000; omega⟩
        · have := prod_l0 (okU_of h) (okU_of h') h16 g16 g0 hN h3 N 0 (by omega) (by omega)
          have e : prdT (rowsF l) (rowsF g) l.length g.length 0 0 = fun _ => 0 := by
            funext r
            unfold prdT
            rw [if_neg (by omega)]
            split <;> rfl
          rw [e, ← rep_rowsI] at this
          refine Ev.congr (fun k => ?_) this
          rw [if_neg (by omega), if_pos (by omega), if_pos (by omega), Int.toNat_natCast, List.length_replicate]
          rfl
        · have := rprod_l0 (okU_of h) (okU_of h') h16 g16 g0 hN h3 N 0 (by omega) (by omega)
          refine Ev.bind c1 (Ev.congr (fun k => if_pos rfl) (Ev.bind c2 (Ev.congr (fun k => if_pos rfl) ?_)))
          refine Ev.congr (fun k => if_neg (by omega)) ?_
          exact this
      · rw [if_neg h3]
        refine ⟨Ev.congr (fun k => if_pos (by omega)) (Ev.now _), ?_, by simp⟩
        refine Ev.bind c1 (Ev.congr (fun k => if_pos rfl) (Ev.bind c2 (Ev.congr (fun k => if_pos rfl) ?_)))
        exact Ev.congr (fun k => if_pos (by omega)) (Ev.now _)
    · simp only [if_pos h0, if_neg h1]
      refine ⟨Ev.now _, ?_, by simp⟩
      have c1 := chk_ev h
      rw [h0] at c1
      refine Ev.bind c1 (Ev.congr (fun k => if_pos rfl) (Ev.bind (chk_ev h') (Ev.congr (fun k => if_neg h1) (Ev.now _))))
  · simp only [if_neg h0]
    refine ⟨Ev.now _, Ev.bind (chk_ev h) (Ev.congr (fun k => if_neg h0) (Ev.now _)), by simp⟩
theorem same3_ev {l : List Int} (h : l.length < 1000000) : Ev (fun k => rampartref02_Same.f k l l) true := by
  unfold rampartref02_Same.f
  exact Ev.bind (same_ev h) (Ev.now _)
theorem makes_ev {l1 l2 : List Int} (h1 : okUb (l1.take 17) = true) (h2 : okUb (l2.take 17) = true) (a : Int) : Ev (fun k => rampartlaw02_LatticeMakes.f k a l1 l2) true := by
  unfold rampartlaw02_LatticeMakes.f
  simp only [Option.bind_some]
  obtain ⟨p1, p2, p3⟩ := power_ev a
  obtain ⟨q1, q2, q3⟩ := product_ev h1 h2
  refine Ev.bind p1 (Ev.bind p2 (Ev.bind q1 (Ev.bind q2 (Ev.bind (same3_ev p3) ?_))))
  refine Ev.congr (fun k => if_pos rfl) (Ev.congr (fun k => if_pos rfl) (Ev.bind (same3_ev q3) ?_))
  refine Ev.congr (fun k => if_pos rfl) (Ev.congr (fun k => if_pos rfl) ?_)
  exact Ev.bind awake_ev (Ev.now _)
end Go.Proofs.Ytlbjcmiegbejdaa.Q
