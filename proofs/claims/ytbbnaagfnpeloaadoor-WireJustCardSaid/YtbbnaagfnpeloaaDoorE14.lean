/- Layer 3: the law WireJust, for whatever bytes. -/
import Derived.Test.YtbbnaagfnpeloaaDoorE13
namespace Go.Proofs.YtbbnaagfnpeloaaDoor.Q
open Go.RowKit Go.Proofs.YtbbnaagfnpeloaaDoorW.PrintWords Go.Proofs.YtbbnaagfnpeloaaDoorW.PrintMore
set_option linter.unusedVariables false
set_option linter.unusedSimpArgs false

theorem le4_num4 (x4 x5 x6 x7 : Int) (b4 : 0 ≤ x4 ∧ x4 < 256) (b5 : 0 ≤ x5 ∧ x5 < 256) (b6 : 0 ≤ x6 ∧ x6 < 256) (b7 : 0 ≤ x7 ∧ x7 < 256) : le4 (num4 x4 x5 x6 x7) = [x4, x5, x6, x7] := by
  simp only [le4, num4, List.cons.injEq, and_true]
  refine ⟨?_, ?_, ?_, ?_⟩ <;> omega
theorem bytes_num (x0 x1 x2 x4 x5 x6 x7 x8 x9 x10 x11 x12 x13 x14 x15 : Int) (b4 : 0 ≤ x4 ∧ x4 < 256) (b5 : 0 ≤ x5 ∧ x5 < 256) (b6 : 0 ≤ x6 ∧ x6 < 256) (b7 : 0 ≤ x7 ∧ x7 < 256) (b8 : 0 ≤ x8 ∧ x8 < 256) (b9 : 0 ≤ x9 ∧ x9 < 256) (b10 : 0 ≤ x10 ∧ x10 < 256) (b11 : 0 ≤ x11 ∧ x11 < 256) (b12 : 0 ≤ x12 ∧ x12 < 256) (b13 : 0 ≤ x13 ∧ x13 < 256) (b14 : 0 ≤ x14 ∧ x14 < 256) (b15 : 0 ≤ x15 ∧ x15 < 256) : bytes16 x0 x1 x2 (num4 x4 x5 x6 x7) (num8 x8 x9 x10 x11 x12 x13 x14 x15) = [x0, x1, x2, 0, x4, x5, x6, x7, x8, x9, x10, x11, x12, x13, x14, x15] := by
  have e8 : le8 (num8 x8 x9 x10 x11 x12 x13 x14 x15) = [x8, x9, x10, x11, x12, x13, x14, x15] := by
    simp only [le8, num8, List.cons.injEq, and_true]
    refine ⟨?_, ?_, ?_, ?_, ?_, ?_, ?_, ?_⟩ <;> omega
  unfold bytes16
  rw [le4_num4 x4 x5 x6 x7 b4 b5 b6 b7, e8]
  rfl
theorem req_or (A : Option Addr) (c : Nat) (x0 x1 x2 x3 x4 x5 x6 x7 x8 x9 x10 x11 x12 x13 x14 x15 : Int) (b0 : 0 ≤ x0 ∧ x0 < 256) (b1 : 0 ≤ x1 ∧ x1 < 256) (b2 : 0 ≤ x2 ∧ x2 < 256) (b3 : 0 ≤ x3 ∧ x3 < 256) (b4 : 0 ≤ x4 ∧ x4 < 256) (b5 : 0 ≤ x5 ∧ x5 < 256) (b6 : 0 ≤ x6 ∧ x6 < 256) (b7 : 0 ≤ x7 ∧ x7 < 256) (b8 : 0 ≤ x8 ∧ x8 < 256) (b9 : 0 ≤ x9 ∧ x9 < 256) (b10 : 0 ≤ x10 ∧ x10 < 256) (b11 : 0 ≤ x11 ∧ x11 < 256) (b12 : 0 ≤ x12 ∧ x12 < 256) (b13 : 0 ≤ x13 ∧ x13 < 256) (b14 : 0 ≤ x14 ∧ x14 < 256) (b15 : 0 ≤ x15 ∧ x15 < 256) (w : World) (hP : PartsHeld w) (hC : (Kd.int .u8).C w A 16 [x0, x1, x2, x3, x4, x5, x6, x7, x8, x9, x10, x11, x12, x13, x14, x15]) (hc : 16 ≤ c) :
    (∃ kd a rt h p : Int, (∀ W : World, Below w.heap.size w W → Calls Tryd.prog 25 #[.slice A 16 c] W fun e w' => e = .returned (.tuple #[.agg #[.int .u8 kd, .int .u8 a, .int .u8 rt, .int .u32 h, .int .u64 p], .int .i64 0]) ∧ Below W.heap.size W w') ∧ (∀ W : World, PartsHeld W → Calls Tryd.prog 10 #[.agg #[.int .u8 kd, .int .u8 a, .int .u8 rt, .int .u32 h, .int .u64 p]] W fun e w' => ∃ v, e = .returned (.tuple #[v, .int .i64 0]) ∧ OwnBytes W w' v [x0, x1, x2, x3, x4, x5, x6, x7, x8, x9, x10, x11, x12, x13, x14, x15] ∧ Below W.heap.size W w')) ∨ (∀ W : World, Below w.heap.size w W → Calls Tryd.prog 25 #[.slice A 16 c] W fun e w' => e = .returned (.tuple #[.agg #[.int .u8 0, .int .u8 0, .int .u8 0, .int .u32 0, .int .u64 0], .int .i64 30]) ∧ Below W.heap.size W w') := by
  cases h3 : (x3 != 0) with
  | true => exact .inr fun W hW => parse25_mark A c x0 x1 x2 x3 x4 x5 x6 x7 x8 x9 x10 x11 x12 x13 x14 x15 W (Kd.C_below hC hW) hc h3
  | false =>
    cases hq : isReq x0 x1 x2 (num4 x4 x5 x6 x7) (num8 x8 x9 x10 x11 x12 x13 x14 x15) with
    | false => exact .inr fun W hW => parse25_16 A c x0 x1 x2 x3 x4 x5 x6 x7 x8 x9 x10 x11 x12 x13 x14 x15 b4.1 b4.2 b5.1 b5.2 b6.1 b6.2 b7.1 b7.2 b8.1 b8.2 b9.1 b9.2 b10.1 b10.2 b11.1 b11.2 b12.1 b12.2 b13.1 b13.2 b14.1 b14.2 b15.1 b15.2 W (hP.below hW) (Kd.C_below hC hW) hc h3 false hq
    | true =>
      obtain ⟨n0, n1, _⟩ := num4_lt x4 x5 x6 x7 b4.1 b4.2 b5.1 b5.2 b6.1 b6.2 b7.1 b7.2
      refine .inl ⟨x0, x1, x2, (num4 x4 x5 x6 x7), (num8 x8 x9 x10 x11 x12 x13 x14 x15), fun W hW => parse25_16 A c x0 x1 x2 x3 x4 x5 x6 x7 x8 x9 x10 x11 x12 x13 x14 x15 b4.1 b4.2 b5.1 b5.2 b6.1 b6.2 b7.1 b7.2 b8.1 b8.2 b9.1 b9.2 b10.1 b10.2 b11.1 b11.2 b12.1 b12.2 b13.1 b13.2 b14.1 b14.2 b15.1 b15.2 W (hP.below hW) (Kd.C_below hC hW) hc h3 true hq, fun W hPW => ?_⟩
      have k := bytes10 x0 x1 x2 (num4 x4 x5 x6 x7) (num8 x8 x9 x10 x11 x12 x13 x14 x15) n0 n1 W hPW
      rw [hq, if_pos rfl, if_pos rfl, bytes_num x0 x1 x2 x4 x5 x6 x7 x8 x9 x10 x11 x12 x13 x14 x15 b4 b5 b6 b7 b8 b9 b10 b11 b12 b13 b14 b15] at k
      obtain rfl : x3 = 0 := by simpa using h3
      exact k
theorem rep_or (A : Option Addr) (c : Nat) (x0 x1 x2 x3 x4 x5 x6 x7 x8 x9 x10 x11 x12 x13 x14 x15 : Int) (b0 : 0 ≤ x0 ∧ x0 < 256) (b1 : 0 ≤ x1 ∧ x1 < 256) (b2 : 0 ≤ x2 ∧ x2 < 256) (b3 : 0 ≤ x3 ∧ x3 < 256) (b4 : 0 ≤ x4 ∧ x4 < 256) (b5 : 0 ≤ x5 ∧ x5 < 256) (b6 : 0 ≤ x6 ∧ x6 < 256) (b7 : 0 ≤ x7 ∧ x7 < 256) (b8 : 0 ≤ x8 ∧ x8 < 256) (b9 : 0 ≤ x9 ∧ x9 < 256) (b10 : 0 ≤ x10 ∧ x10 < 256) (b11 : 0 ≤ x11 ∧ x11 < 256) (b12 : 0 ≤ x12 ∧ x12 < 256) (b13 : 0 ≤ x13 ∧ x13 < 256) (b14 : 0 ≤ x14 ∧ x14 < 256) (b15 : 0 ≤ x15 ∧ x15 < 256) (w : World) (hP : PartsHeld w) (hC : (Kd.int .u8).C w A 16 [x0, x1, x2, x3, x4, x5, x6, x7, x8, x9, x10, x11, x12, x13, x14, x15]) (hc : 16 ≤ c) :
    (∃ cd b g q : Int, (∀ W : World, Below w.heap.size w W → Calls Tryd.prog 27 #[.slice A 16 c] W fun e w' => e = .returned (.tuple #[.agg #[.int .u8 cd, .int .u8 b, .int .u32 g, .int .u64 q], .int .i64 0]) ∧ Below W.heap.size W w') ∧ (∀ W : World, PartsHeld W → Calls Tryd.prog 23 #[.agg #[.int .u8 cd, .int .u8 b, .int .u32 g, .int .u64 q]] W fun e w' => ∃ v, e = .returned (.tuple #[v, .int .i64 0]) ∧ OwnBytes W w' v [x0, x1, x2, x3, x4, x5, x6, x7, x8, x9, x10, x11, x12, x13, x14, x15] ∧ Below W.heap.size W w')) ∨ (∀ W : World, Below w.heap.size w W → Calls Tryd.prog 27 #[.slice A 16 c] W fun e w' => e = .returned (.tuple #[.agg #[.int .u8 0, .int .u8 0, .int .u32 0, .int .u64 0], .int .i64 30]) ∧ Below W.heap.size W w') := by
  cases h2 : (x2 != 0) with
  | true => exact .inr fun W hW => parse27_mark2 A c x0 x1 x2 x3 x4 x5 x6 x7 x8 x9 x10 x11 x12 x13 x14 x15 W (Kd.C_below hC hW) hc h2
  | false =>
    cases h3 : (x3 != 0) with
    | true => exact .inr fun W hW => parse27_mark3 A c x0 x1 x2 x3 x4 x5 x6 x7 x8 x9 x10 x11 x12 x13 x14 x15 W (Kd.C_below hC hW) hc h2 h3
    | false =>
      cases hq : isRep x0 x1 (num4 x4 x5 x6 x7) (num8 x8 x9 x10 x11 x12 x13 x14 x15) with
      | false => exact .inr fun W hW => parse27_16 A c x0 x1 x2 x3 x4 x5 x6 x7 x8 x9 x10 x11 x12 x13 x14 x15 b4.1 b4.2 b5.1 b5.2 b6.1 b6.2 b7.1 b7.2 b8.1 b8.2 b9.1 b9.2 b10.1 b10.2 b11.1 b11.2 b12.1 b12.2 b13.1 b13.2 b14.1 b14.2 b15.1 b15.2 W (hP.below hW) (Kd.C_below hC hW) hc h2 h3 false hq
      | true =>
        obtain ⟨n0, n1, _⟩ := num4_lt x4 x5 x6 x7 b4.1 b4.2 b5.1 b5.2 b6.1 b6.2 b7.1 b7.2
        refine .inl ⟨x0, x1, (num4 x4 x5 x6 x7), (num8 x8 x9 x10 x11 x12 x13 x14 x15), fun W hW => parse27_16 A c x0 x1 x2 x3 x4 x5 x6 x7 x8 x9 x10 x11 x12 x13 x14 x15 b4.1 b4.2 b5.1 b5.2 b6.1 b6.2 b7.1 b7.2 b8.1 b8.2 b9.1 b9.2 b10.1 b10.2 b11.1 b11.2 b12.1 b12.2 b13.1 b13.2 b14.1 b14.2 b15.1 b15.2 W (hP.below hW) (Kd.C_below hC hW) hc h2 h3 true hq, fun W hPW => ?_⟩
        have k := reply23 x0 x1 (num4 x4 x5 x6 x7) (num8 x8 x9 x10 x11 x12 x13 x14 x15) n0 n1 W hPW
        rw [hq, if_pos rfl, if_pos rfl, bytes_num x0 x1 0 x4 x5 x6 x7 x8 x9 x10 x11 x12 x13 x14 x15 b4 b5 b6 b7 b8 b9 b10 b11 b12 b13 b14 b15] at k
        obtain rfl : x3 = 0 := by simpa using h3
        obtain rfl : x2 = 0 := by simpa using h2
        exact k
theorem just8 (A : Option Addr) (n c : Nat) (xs : List Int) (hc : n ≤ c) (w : World) (hP : PartsHeld w) (hC : (Kd.int .u8).C w A n xs) (hx : ∀ x ∈ xs, 0 ≤ x ∧ x < 256) : Calls Tryd.prog 8 #[.slice A n c] w fun e w' => e = .returned (.bool true) ∧ Below w.heap.size w w' := by
  obtain ⟨m, ys, hmc, hm4, hC', hy, hK⟩ := cut19 A n c xs hc w hC hx
  by_cases h16 : m = 16
  · subst h16
    obtain ⟨x0, x1, x2, x3, x4, x5, x6, x7, x8, x9, x10, x11, x12, x13, x14, x15, rfl⟩ := list16 ys (C_len hC')
    simp only [List.mem_cons, List.not_mem_nil, or_false, forall_eq_or_imp, forall_eq] at hy
    obtain ⟨b0, b1, b2, b3, b4, b5, b6, b7, b8, b9, b10, b11, b12, b13, b14, b15⟩ := hy
    rcases req_or A c x0 x1 x2 x3 x4 x5 x6 x7 x8 x9 x10 x11 x12 x13 x14 x15 b0 b1 b2 b3 b4 b5 b6 b7 b8 b9 b10 b11 b12 b13 b14 b15 w hP hC' hmc with ⟨kd, a, rt, h, p, hQ, hQB⟩ | hQ
    · rcases rep_or A c x0 x1 x2 x3 x4 x5 x6 x7 x8 x9 x10 x11 x12 x13 x14 x15 b0 b1 b2 b3 b4 b5 b6 b7 b8 b9 b10 b11 b12 b13 b14 b15 w hP hC' hmc with ⟨cd, b, g, q, hR, hRB⟩ | hR
      · exact just8_yy A n 16 c _ kd a rt h p cd b g q w hP hC' hK hQ hR hQB hRB
      · exact just8_yn A n 16 c _ kd a rt h p w hP hC' hK hQ hR hQB
    · rcases rep_or A c x0 x1 x2 x3 x4 x5 x6 x7 x8 x9 x10 x11 x12 x13 x14 x15 b0 b1 b2 b3 b4 b5 b6 b7 b8 b9 b10 b11 b12 b13 b14 b15 w hP hC' hmc with ⟨cd, b, g, q, hR, hRB⟩ | hR
      · exact just8_ny A n 16 c _ cd b g q w hP hC' hK hQ hR hRB
      · exact just8_nn A n 16 c _ w hP hC' hK hQ hR
  · exact just8_nn A n m c ys w hP hC' hK (fun W _ => parse25_bad A m c h16 (by omega) W) (fun W _ => parse27_bad A m c h16 (by omega) W)

end Go.Proofs.YtbbnaagfnpeloaaDoor.Q
