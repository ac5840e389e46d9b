/- Layer 2, plain: the subsets are a lattice; a product of lattices is one. -/
import Derived.Test.YtlbjcmiegbejdaaP9
import Derived.Test.YtlbjcmiegbejdaaL11
namespace Go.Proofs.Ytlbjcmiegbejdaa.Q
open Go.RowKit Go.Proofs.YtlbjcmiegbejdaaW.PrintWords Go.Proofs.YtlbjcmiegbejdaaW.PrintMore Go.Proofs.YtlbjcmiegbejdaaW.PrintLast Go.Proofs.Ytlbjcmiegbejdaa.Bm
set_option linter.unusedVariables false
set_option linter.unusedSimpArgs false
theorem latF_good' {l : List Int} (h : latF l = none) (x y : Fin l.length) : badB l x y = false := by
  unfold latF at h
  rw [List.findSome?_eq_none_iff] at h
  have h1 := h x (all_labs x)
  rw [Option.map_eq_none_iff, List.find?_eq_none] at h1
  have h2 := h1 y (all_labs y)
  simpa using h2
theorem turn_le' {l : List Int} {x d : Nat} (hx : x < l.length) : (rowsF (turnL l) x).testBit d = true ↔ d < l.length ∧ (rowsF l d).testBit x = true := by
  rw [turnL_bit hx, Bool.and_eq_true, decide_eq_true_iff]
theorem jn_ex {l : List Int} {a b : Nat} (h : jnF l (a : Int) (b : Int) ≠ 0) : ∃ z, IsJoin (rowsF l) l.length a b z := by
  rw [jnF_nat] at h
  have h0 : jnS l a b ≠ 0 := fun e => h (by rw [e]; rfl)
  obtain ⟨z, hz⟩ := Nat.exists_testBit_of_ne_zero h0
  exact ⟨z, jnS_bit.1 hz⟩
theorem jn_ne {l : List Int} {a b z : Nat} (h : IsJoin (rowsF l) l.length a b z) : jnF l (a : Int) (b : Int) ≠ 0 := by
  rw [jnF_nat]
  intro e
  have hb := jnS_bit.2 h
  have e0 : jnS l a b = 0 := by omega
  rw [e0, Nat.zero_testBit] at hb
  cases hb
/-! ### pairs -/
def prodL (l g : List Int) : List Int := rowsI (prd (rowsF l) (rowsF g) l.length g.length) (l.length * g.length)
theorem prodL_len (l g : List Int) : (prodL l g).length = l.length * g.length := rowsI_len _ _
theorem prodL_bit {l g : List Int} {x y : Nat} (hx : x < l.length * g.length) : (rowsF (prodL l g) x).testBit y = true ↔ y < l.length * g.length ∧ (rowsF l (x / g.length)).testBit (y / g.length) = true ∧ (rowsF g (x % g.length)).testBit (y % g.length) = true := by
  unfold prodL
  rw [rowsF_I hx]
  unfold prd prdB
  rw [testBit_ofP, Bool.and_eq_true, Bool.and_eq_true, decide_eq_true_iff]
theorem pair_div {m i j : Nat} (hj : j < m) : (i * m + j) / m = i := by
  rw [Nat.mul_comm, Nat.mul_add_div (by omega), Nat.div_eq_of_lt hj, Nat.add_zero]
theorem pair_mod {m i j : Nat} (hj : j < m) : (i * m + j) % m = j := by
  rw [Nat.mul_comm, Nat.mul_add_mod, Nat.mod_eq_of_lt hj]
theorem pair_lt {n m i j : Nat} (hi : i < n) (hj : j < m) : i * m + j < n * m := by
  have h1 : (i + 1) * m ≤ n * m := Nat.mul_le_mul_right m hi
  rw [Nat.add_mul] at h1
  omega
section
variable {l g : List Int} (h0 : 0 < g.length)
include h0
omit h0 in
theorem pdiv {x : Nat} (hx : x < l.length * g.length) : x / g.length < l.length := Nat.div_lt_of_lt_mul (by rw [Nat.mul_comm]; exact hx)
theorem prod_pol (hl : Pol (rowsF l) l.length) (hg : Pol (rowsF g) g.length) : Pol (rowsF (prodL l g)) (l.length * g.length) := by
  intro a ha
  have a1 := pdiv ha
  have a2 := Nat.mod_lt a h0
  refine ⟨(prodL_bit ha).2 ⟨ha, (hl _ a1).1, (hg _ a2).1⟩, fun b hb hab c hbc => ?_⟩
  have b1 := pdiv hb
  have b2 := Nat.mod_lt b h0
  obtain ⟨_, h1, h2⟩ := (prodL_bit ha).1 hab
  obtain ⟨hc, h3, h4⟩ := (prodL_bit hb).1 hbc
  exact (prodL_bit ha).2 ⟨hc, (hl _ a1).2 _ b1 h1 _ h3, (hg _ a2).2 _ b2 h2 _ h4⟩
omit h0 in
theorem prod_join {x y u v : Nat} (hx : x < l.length * g.length) (hy : y < l.length * g.length) (hu : IsJoin (rowsF l) l.length (x / g.length) (y / g.length) u) (hv : IsJoin (rowsF g) g.length (x % g.length) (y % g.length) v) :
    IsJoin (rowsF (prodL l g)) (l.length * g.length) x y (u * g.length + v) := by
  have hz := pair_lt hu.1 hv.1
  have e1 : (u * g.length + v) / g.length = u := pair_div hv.1
  have e2 : (u * g.length + v) % g.length = v := pair_mod hv.1
  refine ⟨hz, (prodL_bit hx).2 ⟨hz, ?_, ?_⟩, (prodL_bit hy).2 ⟨hz, ?_, ?_⟩, fun d h1 h2 => ?_⟩
  · rw [e1]; exact hu.2.1
  · rw [e2]; exact hv.2.1
  · rw [e1]; exact hu.2.2.1
  · rw [e2]; exact hv.2.2.1
  · obtain ⟨hd, h3, h4⟩ := (prodL_bit hx).1 h1
    obtain ⟨_, h5, h6⟩ := (prodL_bit hy).1 h2
    refine (prodL_bit hz).2 ⟨hd, ?_, ?_⟩
    · rw [e1]; exact hu.2.2.2 _ h3 h5
    · rw [e2]; exact hv.2.2.2 _ h4 h6
theorem prod_meet {x y u v : Nat} (hx : x < l.length * g.length) (hy : y < l.length * g.length) (hu : IsJoin (rowsF (turnL l)) l.length (x / g.length) (y / g.length) u) (hv : IsJoin (rowsF (turnL g)) g.length (x % g.length) (y % g.length) v) :
    IsJoin (rowsF (turnL (prodL l g))) (l.length * g.length) x y (u * g.length + v) := by
  have hz := pair_lt hu.1 hv.1
  have e1 : (u * g.length + v) / g.length = u := pair_div hv.1
  have e2 : (u * g.length + v) % g.length = v := pair_mod hv.1
  have hln := prodL_len l g
  have x1 := pdiv hx
  have x2 := Nat.mod_lt x h0
  have y1 := pdiv hy
  have y2 := Nat.mod_lt y h0
  have T : ∀ {a b : Nat}, a < l.length * g.length → ((rowsF (turnL (prodL l g)) a).testBit b = true ↔ b < l.length * g.length ∧ (rowsF (prodL l g) b).testBit a = true) := fun ha => by
    have := turn_le' (l := prodL l g) (d := ‹Nat›) (by rw [hln]; exact ha)
    rw [hln] at this
    exact this
  have ux := ((turn_le' x1).1 hu.2.1).2
  have uy := ((turn_le' y1).1 hu.2.2.1).2
  have vx := ((turn_le' x2).1 hv.2.1).2
  have vy := ((turn_le' y2).1 hv.2.2.1).2
  refine ⟨hz, (T hx).2 ⟨hz, (prodL_bit hz).2 ⟨hx, by rw [e1]; exact ux, by rw [e2]; exact vx⟩⟩, (T hy).2 ⟨hz, (prodL_bit hz).2 ⟨hy, by rw [e1]; exact uy, by rw [e2]; exact vy⟩⟩, fun d h1 h2 => ?_⟩
  obtain ⟨hd, h3⟩ := (T hx).1 h1
  obtain ⟨_, h4⟩ := (T hy).1 h2
  obtain ⟨_, h5, h6⟩ := (prodL_bit hd).1 h3
  obtain ⟨_, h7, h8⟩ := (prodL_bit hd).1 h4
  have d1 := pdiv hd
  have d2 := Nat.mod_lt d h0
  have h9 := ((turn_le' hu.1).1 (hu.2.2.2 (d / g.length) ((turn_le' x1).2 ⟨d1, h5⟩) ((turn_le' y1).2 ⟨d1, h7⟩))).2
  have h10 := ((turn_le' hv.1).1 (hv.2.2.2 (d % g.length) ((turn_le' x2).2 ⟨d2, h6⟩) ((turn_le' y2).2 ⟨d2, h8⟩))).2
  exact (T hz).2 ⟨hd, (prodL_bit hd).2 ⟨hz, by rw [e1]; exact h9, by rw [e2]; exact h10⟩⟩
end
theorem prod_lat {l g : List Int} (hl : chk l = 0) (hg : chk g = 0) (fl : latF l = none) (fg : latF g = none) (hN : l.length * g.length ≤ 16) : okUb (prodL l g) = true ∧ chk (prodL l g) = 0 ∧ latF (prodL l g) = none := by
  obtain ⟨ls, lP⟩ := chk_zero hl
  obtain ⟨gs, gP⟩ := chk_zero hg
  obtain ⟨_, l0, _, _⟩ := shp_zero ls
  obtain ⟨_, g0, _, _⟩ := shp_zero gs
  have hpos : 0 < l.length * g.length := Nat.mul_pos l0 g0
  have hln := prodL_len l g
  refine ⟨okUb_rows fun i _ => pow64 (by omega) (ofP_lt _ _), chk_of (shp_rows hpos hN fun i _ => ofP_lt _ _) ?_, latF_none fun x y => ?_⟩
  · rw [hln]
    exact prod_pol g0 lP gP
  · have hx : x.val < l.length * g.length := by have := x.2; omega
    have hy : y.val < l.length * g.length := by have := y.2; omega
    have x1 := pdiv hx
    have x2 := Nat.mod_lt x.val g0
    have y1 := pdiv hy
    have y2 := Nat.mod_lt y.val g0
    have b1 := latF_good' fl ⟨_, x1⟩ ⟨_, y1⟩
    have b2 := latF_good' fg ⟨_, x2⟩ ⟨_, y2⟩
    unfold badB at b1 b2 ⊢
    rw [Bool.or_eq_false_iff, decide_eq_false_iff_not, decide_eq_false_iff_not] at b1 b2 ⊢
    obtain ⟨u, hu⟩ := jn_ex b1.1
    obtain ⟨v, hv⟩ := jn_ex b2.1
    obtain ⟨u', hu'⟩ := jn_ex b1.2
    obtain ⟨v', hv'⟩ := jn_ex b2.2
    rw [turnL_len] at hu' hv'
    have hq : (turnL (prodL l g)).length = l.length * g.length := by rw [turnL_len, hln]
    have t1 := prod_join hx hy hu hv
    have t2 := prod_meet g0 hx hy hu' hv'
    rw [← hln] at t1
    rw [← hq] at t2
    exact ⟨jn_ne t1, jn_ne t2⟩
/-! ### subsets -/
theorem pow_facts : ∀ k : Fin 5, lattice_Check.f (powV ((k.val : Nat) : Int)).1 = some 0 ∧ (powV ((k.val : Nat) : Int)).2 = 0 ∧ okUb (powV ((k.val : Nat) : Int)).1 = true ∧ (powV ((k.val : Nat) : Int)).1.length ≤ 16 := by
  decide +kernel
theorem pow_joins : ∀ k : Fin 5, ∀ a b : Fin 16, a.val < (powV ((k.val : Nat) : Int)).1.length → b.val < (powV ((k.val : Nat) : Int)).1.length → jnF (powV ((k.val : Nat) : Int)).1 ((a.val : Nat) : Int) ((b.val : Nat) : Int) = ((2 ^ (a.val ||| b.val) : Nat) : Int) := by
  decide +kernel
theorem pow_meets : ∀ k : Fin 5, ∀ a b : Fin 16, a.val < (powV ((k.val : Nat) : Int)).1.length → b.val < (powV ((k.val : Nat) : Int)).1.length → jnF (turnL (powV ((k.val : Nat) : Int)).1) ((a.val : Nat) : Int) ((b.val : Nat) : Int) = ((2 ^ (a.val &&& b.val) : Nat) : Int) := by
  decide +kernel
theorem pow_all {k : Fin 5} {p : List Int} (hp : p = (powV ((k.val : Nat) : Int)).1) : chk p = 0 ∧ latF p = none := by
  obtain ⟨h1, h2, h3, h4⟩ := pow_facts k
  have hj := pow_joins k
  have hm := pow_meets k
  rw [← hp] at h1 h3 h4 hj hm
  rw [chk_b h3] at h1
  refine ⟨Option.some.inj h1, latF_none fun x y => ?_⟩
  unfold badB
  rw [Bool.or_eq_false_iff, decide_eq_false_iff_not, decide_eq_false_iff_not]
  have e1 := hj ⟨x.val, by have := x.2; omega⟩ ⟨y.val, by have := y.2; omega⟩ x.2 y.2
  have e2 := hm ⟨x.val, by have := x.2; omega⟩ ⟨y.val, by have := y.2; omega⟩ x.2 y.2
  have p1 := Nat.two_pow_pos (x.val ||| y.val)
  have p2 := Nat.two_pow_pos (x.val &&& y.val)
  constructor
  · rw [e1]; simp only; omega
  · rw [e2]; simp only; omega
/-! ### what the law hears -/
theorem lattice_b2 {l : List Int} (h : okUb l = true) : lattice_Lattice.f l = some (if chk l = 0 then latT l else (0, 0, false, chk l)) := by
  unfold lattice_Lattice.f
  rw [chk_b h, Option.bind_some]
  split <;> rfl
theorem latT_none {l : List Int} (h : latF l = none) : latT l = (0, 0, true, 0) := by unfold latT; rw [h]
theorem askE_in {l : List Int} {a b : Nat} (ha : a < l.length) (hb : b < l.length) : askE l (a : Int) (b : Int) 0 = 0 := by
  unfold askE
  rw [if_pos rfl, if_neg (by omega)]
/-- Of the subsets. -/
theorem pow_law {k : Nat} (hk : k < 5) {a b : Nat} {p : List Int} (hp : p = (powV (k : Int)).1) (ha : a < p.length) (hb : b < p.length) :
    lattice_Joins.f p (a : Int) (b : Int) = some (((2 ^ (a ||| b) : Nat) : Int), 0) ∧ lattice_Meets.f p (a : Int) (b : Int) = some (((2 ^ (a &&& b) : Nat) : Int), 0) ∧ lattice_Lattice.f p = some (0, 0, true, 0) ∧ a < 16 ∧ b < 16 := by
  obtain ⟨hc, hf⟩ := pow_all (k := ⟨k, hk⟩) hp
  obtain ⟨_, _, h3, h4⟩ := pow_facts ⟨k, hk⟩
  have hj := pow_joins ⟨k, hk⟩
  have hm := pow_meets ⟨k, hk⟩
  simp only at h3 h4 hj hm
  rw [← hp] at h3 h4 hj hm
  have e1 := hj ⟨a, by omega⟩ ⟨b, by omega⟩ ha hb
  have e2 := hm ⟨a, by omega⟩ ⟨b, by omega⟩ ha hb
  simp only at e1 e2
  refine ⟨?_, ?_, ?_, by omega, by omega⟩
  · rw [Joins_b h3, hc, askE_in ha hb, e1]
    rfl
  · rw [Meets_b h3, hc, askE_in ha hb, e2]
    rfl
  · rw [lattice_b2 h3, if_pos hc, latT_none hf]
/-- Of products. -/
theorem prod_law {l g : List Int} (h : okUb l = true) (h' : okUb g = true) {x1 x2 : Int} {x3 : Bool} {x4 z1 z2 : Int} {z3 : Bool} {z4 : Int} (hl : lattice_Lattice.f l = some (x1, x2, x3, x4)) (hg : lattice_Lattice.f g = some (z1, z2, z3, z4)) (e1 : x4 = 0) (e2 : z4 = 0) (e3 : x3 = true) (e4 : z3 = true) (e5 : (prdR l g).2 = 0) :
    lattice_Lattice.f (prdR l g).1 = some (0, 0, true, 0) ∧ (prdR l g).1.length = l.length * g.length ∧ l.length * g.length ≤ 16 := by
  have key : ∀ {l : List Int}, okUb l = true → ∀ {x1 x2 : Int} {x3 : Bool} {x4 : Int}, lattice_Lattice.f l = some (x1, x2, x3, x4) → x4 = 0 → x3 = true → chk l = 0 ∧ latF l = none := by
    intro l h x1 x2 x3 x4 hl e1 e3
    rw [lattice_b2 h] at hl
    by_cases hc : chk l = 0
    · rw [if_pos hc] at hl
      refine ⟨hc, ?_⟩
      unfold latT at hl
      cases hf : latF l with
      | none => rfl
      | some pq =>
        rw [hf] at hl
        obtain ⟨p, q⟩ := pq
        simp only [Option.some.injEq, Prod.mk.injEq] at hl
        rw [e3] at hl
        exact absurd hl.2.2.1 (by simp)
    · rw [if_neg hc] at hl
      simp only [Option.some.injEq, Prod.mk.injEq] at hl
      rw [e3] at hl
      exact absurd hl.2.2.1 (by simp)
  obtain ⟨c1, f1⟩ := key h hl e1 e3
  obtain ⟨c2, f2⟩ := key h' hg e2 e4
  unfold prdR at e5 ⊢
  rw [if_pos c1, if_pos c2] at e5 ⊢
  by_cases hN : l.length * g.length ≤ 16
  · rw [if_pos hN]
    obtain ⟨q1, q2, q3⟩ := prod_lat c1 c2 f1 f2 hN
    refine ⟨?_, prodL_len l g, hN⟩
    show lattice_Lattice.f (prodL l g) = _
    rw [lattice_b2 q1, if_pos q2, latT_none q3]
  · rw [if_neg hN] at e5
    cases e5
end Go.Proofs.Ytlbjcmiegbejdaa.Q

/- Layer 2: the law over subsets and products. -/
namespace Go.Proofs.Ytlbjcmiegbejdaa.Q
open Go.RowKit Go.Proofs.YtlbjcmiegbejdaaW.PrintWords Go.Proofs.YtlbjcmiegbejdaaW.PrintMore Go.Proofs.YtlbjcmiegbejdaaW.PrintLast Go.Proofs.Ytlbjcmiegbejdaa.Bm
set_option linter.unusedVariables false
set_option linter.unusedSimpArgs false
theorem i64_and_or {a b : Nat} (ha : a < 16) (hb : b < 16) : bits .and .i64 (a : Int) (b : Int) = ((a &&& b : Nat) : Int) ∧ bits .or .i64 (a : Int) (b : Int) = ((a ||| b : Nat) : Int) := by
  have key : ∀ a b : Fin 16, bits .and .i64 ((a.val : Nat) : Int) ((b.val : Nat) : Int) = ((a.val &&& b.val : Nat) : Int) ∧ bits .or .i64 ((a.val : Nat) : Int) ((b.val : Nat) : Int) = ((a.val ||| b.val : Nat) : Int) := by decide +kernel
  exact key ⟨a, ha⟩ ⟨b, hb⟩
theorem wrap_two {n : Nat} (h : n < 16) : IntKind.u64.wrap (1 * (2 : Int) ^ n) = ((2 ^ n : Nat) : Int) ∧ IntKind.u64.wrap ((2 : Int) ^ n) = ((2 ^ n : Nat) : Int) := by
  have := wrap_pow (i := n) (by omega)
  exact ⟨by rw [Int.one_mul]; exact this, this⟩
theorem rampartlaw02_LatticePowers.walk (a0 a1 a2 : Int) (a3 : Option Addr) (len3 cap3 : Nat) (z3 : List Int) (a4 : Option Addr) (len4 cap4 : Nat) (z4 : List Int) (w : World) (w0 : (Lit.int .i64 a0).wf = true) (w1 : (Lit.int .i64 a1).wf = true) (w2 : (Lit.int .i64 a2).wf = true) (w3 : (a3 = none ∧ len3 = 0 ∧ cap3 = 0 ∧ z3 = []) ∨ ∃ x, a3 = some x ∧ len3 ≤ cap3 ∧ cap3 ≤ maxLen ∧ z3.length = cap3 ∧ (∀ i, i < z3.length → w.cell? (x.add i) = some (.int .u64 (z3.getD i 0))) ∧ ∀ n ∈ z3, (Lit.int .u64 n).wf = true) (y3 : len3 * 8 ≤ 140737488351232) (w4 : (a4 = none ∧ len4 = 0 ∧ cap4 = 0 ∧ z4 = []) ∨ ∃ x, a4 = some x ∧ len4 ≤ cap4 ∧ cap4 ≤ maxLen ∧ z4.length = cap4 ∧ (∀ i, i < z4.length → w.cell? (x.add i) = some (.int .u64 (z4.getD i 0))) ∧ ∀ n ∈ z4, (Lit.int .u64 n).wf = true) (y4 : len4 * 8 ≤ 140737488351232) :
    Calls Try.prog 9 #[.int .i64 a0, .int .i64 a1, .int .i64 a2, .slice a3 len3 cap3, .slice a4 len4 cap4] w fun e w' => e = .returned (.bool true) ∧ Below w.heap.size w w' := by
  obtain ⟨l3, rfl, hr3, hm3, hw3, hc3⟩ := ReadsInt.ofRowC w3
  obtain ⟨l4, rfl, hr4, hm4, hw4, hc4⟩ := ReadsInt.ofRowC w4
  have C3 := Kd.C_of_reads (d := (0 : Int)) (h1 := fun _ => rfl) hr3
  have C4 := Kd.C_of_reads (d := (0 : Int)) (h1 := fun _ => rfl) hr4
  have k3 := okUb_take hw3
  have k4 := okUb_take hw4
  obtain ⟨K1, hK1⟩ := (power_ev a0).1
  obtain ⟨K2, hK2⟩ := (product_ev k3 k4).1
  obtain ⟨K3, hK3⟩ := awake_ev
  have hA := hK3 (K1 + K2 + K3) (by omega)
  have hp := hK1 (K1 + K2 + K3) (by omega)
  have hq := hK2 (K1 + K2 + K3) (by omega)
  generalize K1 + K2 + K3 = k at hA hp hq
  obtain ⟨p, e, hv⟩ : ∃ p e, (p, e) = (if a0 < 0 ∨ 4 < a0 then ([], 5) else powV a0) := ⟨_, _, rfl⟩
  rw [← hv] at hp
  obtain ⟨y3, hy3⟩ : ∃ y, y = l3.take 17 := ⟨_, rfl⟩
  obtain ⟨y4, hy4⟩ : ∃ y, y = l4.take 17 := ⟨_, rfl⟩
  rw [← hy3] at k3 hq
  rw [← hy4] at k4 hq
  obtain ⟨q, eq, hqv⟩ : ∃ q eq, prdR y3 y4 = (q, eq) := ⟨_, _, rfl⟩
  rw [hqv] at hq
  obtain ⟨x1, x2, x3, x4, hf⟩ : ∃ x1 x2 x3 x4, lattice_Lattice.f y3 = some (x1, x2, x3, x4) := ⟨_, _, _, _, lattice_b2 k3⟩
  obtain ⟨t1, t2, t3, t4, hg⟩ : ∃ x1 x2 x3 x4, lattice_Lattice.f y4 = some (x1, x2, x3, x4) := ⟨_, _, _, _, lattice_b2 k4⟩
  have hG : (x4 != 0) = true ∨ ((x4 != 0) = false ∧ (t4 != 0) = true) ∨ ((x4 != 0) = false ∧ (t4 != 0) = false ∧ x3 = false) ∨ ((x4 != 0) = false ∧ (t4 != 0) = false ∧ x3 = true ∧ t3 = false) ∨ ((x4 != 0) = false ∧ (t4 != 0) = false ∧ x3 = true ∧ t3 = true ∧ (eq != 0) = true) ∨ ((x4 != 0) = false ∧ (t4 != 0) = false ∧ x3 = true ∧ t3 = true ∧ (eq != 0) = false ∧ lattice_Lattice.f q = some (0, 0, true, 0) ∧ IntKind.i64.wrap ((y3.length : Int) * (y4.length : Int)) = (q.length : Int)) := by
    by_cases e1 : x4 = 0
    · have b1 : (x4 != 0) = false := by rw [e1]; rfl
      by_cases e2 : t4 = 0
      · have b2 : (t4 != 0) = false := by rw [e2]; rfl
        cases hx3 : x3 with
        | false => exact .inr (.inr (.inl ⟨b1, b2, rfl⟩))
        | true =>
          cases ht3 : t3 with
          | false => exact .inr (.inr (.inr (.inl ⟨b1, b2, rfl, rfl⟩)))
          | true =>
            by_cases e5 : eq = 0
            · have b5 : (eq != 0) = false := by rw [e5]; rfl
              have hpl := prod_law k3 k4 hf hg e1 e2 hx3 ht3 (by rw [hqv]; exact e5)
              rw [hqv] at hpl
              obtain ⟨h1, h2, h3⟩ := hpl
              refine .inr (.inr (.inr (.inr (.inr ⟨b1, b2, rfl, rfl, b5, h1, ?_⟩))))
              have h2' : q.length = y3.length * y4.length := h2
              rw [h2', ← Int.natCast_mul, i64_w]
              generalize y3.length * y4.length = N at h3
              unfold wrap64
              omega
            · exact .inr (.inr (.inr (.inr (.inl ⟨b1, b2, rfl, rfl, bne_iff_ne.2 e5⟩))))
      · exact .inr (.inl ⟨b1, bne_iff_ne.2 e2⟩)
    · exact .inl (bne_iff_ne.2 e1)
  by_cases c1 : e = 0
  · have f1 : (e == 0) = true := beq_iff_eq.2 c1
    by_cases c2 : 0 ≤ a1
    · by_cases c3 : 0 ≤ a2
      · by_cases c4 : a1 < (p.length : Int)
        · by_cases c5 : a2 < (p.length : Int)
          · have h0 : ¬ (a0 < 0 ∨ 4 < a0) := fun h => by
              rw [if_pos h] at hv
              simp only [Prod.mk.injEq] at hv
              omega
            rw [if_neg h0] at hv
            obtain ⟨n, rfl⟩ := Int.eq_ofNat_of_zero_le (by omega : 0 ≤ a0)
            obtain ⟨a, rfl⟩ := Int.eq_ofNat_of_zero_le c2
            obtain ⟨b, rfl⟩ := Int.eq_ofNat_of_zero_le c3
            have hpp : p = (powV (n : Int)).1 := by rw [← hv]
            obtain ⟨hJ, hM, hL, ha, hb⟩ := pow_law (k := n) (by omega) hpp (show a < p.length by omega) (show b < p.length by omega)
            have hab : a ||| b < 16 := Nat.or_lt_two_pow (n := 4) ha hb
            have ham : a &&& b < 16 := Nat.lt_of_le_of_lt Nat.and_le_left ha
            obtain ⟨o1, o2⟩ := i64_and_or ha hb
            exact powers_yes k (a ||| b) (a &&& b) _ _ _ _ _ a3 a4 cap3 cap4 l3 l4 y3 y4 p q e x1 x2 x4 t1 t2 t4 eq x3 t3 w C3 hc3 C4 hc4 hy3 hy4 hA hp hf hg hq hG f1 (decide_eq_true c2) (decide_eq_true c3) (decide_eq_true c4) (decide_eq_true c5) o2 o1 hab ham (wrap_two hab).1 (wrap_two hab).2 (wrap_two ham).1 (wrap_two ham).2 (wu64 (by omega) (by omega)) (wu64 (by omega) (by omega)) (Nat.min_eq_left (by omega)) (Nat.min_eq_left (by omega)) (by omega) (by omega) (by omega) (by omega) hJ hM hL
          · exact powers_no4 k a0 a1 a2 a3 a4 cap3 cap4 l3 l4 y3 y4 p q e x1 x2 x4 t1 t2 t4 eq x3 t3 w C3 hc3 C4 hc4 hy3 hy4 hA hp hf hg hq hG f1 (decide_eq_true c2) (decide_eq_true c3) (decide_eq_true c4) (decide_eq_false c5)
        · exact powers_no3 k a0 a1 a2 a3 a4 cap3 cap4 l3 l4 y3 y4 p q e x1 x2 x4 t1 t2 t4 eq x3 t3 w C3 hc3 C4 hc4 hy3 hy4 hA hp hf hg hq hG f1 (decide_eq_true c2) (decide_eq_true c3) (decide_eq_false c4)
      · exact powers_no2 k a0 a1 a2 a3 a4 cap3 cap4 l3 l4 y3 y4 p q e x1 x2 x4 t1 t2 t4 eq x3 t3 w C3 hc3 C4 hc4 hy3 hy4 hA hp hf hg hq hG f1 (decide_eq_true c2) (decide_eq_false c3)
    · exact powers_no1 k a0 a1 a2 a3 a4 cap3 cap4 l3 l4 y3 y4 p q e x1 x2 x4 t1 t2 t4 eq x3 t3 w C3 hc3 C4 hc4 hy3 hy4 hA hp hf hg hq hG f1 (decide_eq_false c2)
  · exact powers_no0 k a0 a1 a2 a3 a4 cap3 cap4 l3 l4 y3 y4 p q e x1 x2 x4 t1 t2 t4 eq x3 t3 w C3 hc3 C4 hc4 hy3 hy4 hA hp hf hg hq hG (beq_eq_false_iff_ne.2 c1)
end Go.Proofs.Ytlbjcmiegbejdaa.Q
