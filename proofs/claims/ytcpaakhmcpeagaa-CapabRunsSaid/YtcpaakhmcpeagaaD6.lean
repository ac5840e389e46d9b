/- Layer 11: an act on both tables. -/
import Derived.Test.YtcpaakhmcpeagaaD5
import Derived.Test.YtcpaakhmcpeagaaC18
import Derived.Test.YtcpaakhmcpeagaaC21
namespace Go.Proofs.Ytcpaakhmcpeagaa.Q
open Go.RowKit Go.Proofs.YtcpaakhmcpeagaaW.PrintWords Go.Proofs.YtcpaakhmcpeagaaW.PrintMore
set_option linter.unusedVariables false
set_option linter.unusedSimpArgs false
open Go.Proofs.YtcpaakhmcpeagaaW.PrintLast
/-- The two tables in one world, apart, and how they lie to the first one. -/
structure DS (wl : World) (b rb : Nat) (A : Option Addr) (cc n : Nat) (W : World) (P : Nat → Pl) : Prop where
  tab : TabAt W b P n true
  rt : RT W rb A cc n P
  ok : Ok P
  low : Below wl.heap.size wl W
  b0 : wl.heap.size ≤ b
  a0 : ∀ a, A = some a → wl.heap.size ≤ a.block
  al : ∀ a, A = some a → a.block < W.heap.size
  ab : some b ≠ A.map (·.block)
section
variable {wl W W' : World} {b rb cc n : Nat} {A : Option Addr} {P P' : Nat → Pl}
theorem DS.below (S : DS wl b rb A cc n W P) (h : Below W.heap.size W W') : DS wl b rb A cc n W' P :=
  ⟨S.tab.below h, S.rt.below h, S.ok, vbelow_step S.low h, S.b0, S.a0, fun a e => Nat.lt_of_lt_of_le (S.al a e) h.size, S.ab⟩
theorem DS.alloc (S : DS wl b rb A cc n W P) (o : Obj) : DS wl b rb A cc n (W.alloc o) P := S.below ((Below.refl _ W).alloc (Nat.le_refl _) o)
/-- Both tables have done the same. -/
theorem DS.both {W1 : World} (S : DS wl b rb A cc n W P) (h1 : Only b W W1) (T1 : TabAt W1 b P' n true) (h2 : OnlyR A W1 W') (R2 : RT W' rb A cc n P') (ok : Ok P') : DS wl b rb A cc n W' P' :=
  ⟨h2.tab T1 S.ab, R2, ok, Below.onlyR (Below.only S.low S.b0 h1) S.a0 h2, S.b0, S.a0, fun a e => Nat.lt_of_lt_of_le (S.al a e) (Nat.le_trans h1.size h2.size), S.ab⟩
theorem DS.new_ne (S : DS wl b rb A cc n W P) : W.heap.size ≠ b ∧ some W.heap.size ≠ A.map (·.block) := by
  refine ⟨Nat.ne_of_gt S.tab.lt, fun e => ?_⟩
  cases hA : A with
  | none => rw [hA] at e; cases e
  | some a =>
    rw [hA] at e
    injection e with e
    have h_ := S.al a hA
    have e2 : W.heap.size = a.block := e
    omega
theorem DS.old_ne (S : DS wl b rb A cc n W P) {k : Nat} (hk : W.heap.size ≤ k) : k ≠ b ∧ some k ≠ A.map (·.block) := by
  refine ⟨fun e => by have h_ := S.tab.lt; omega, fun e => ?_⟩
  cases hA : A with
  | none => rw [hA] at e; cases e
  | some a =>
    rw [hA] at e
    injection e with e
    have h_ := S.al a hA
    have e2 : k = a.block := e
    omega
end
theorem mint_bounds {P : Nat → Pl} (ok : Ok P) {n : Nat} (hn : n ≤ 32) {c r : Int} (r0 : 0 ≤ r) (r1 : r ≤ 255) : 0 ≤ (mintF P n c r).1 ∧ (mintF P n c r).1 < 4294967296 := by
  by_cases h : (mintF P n c r).2.1 = 0
  · exact (inv_mint ok hn r0 r1 (told := []) (dead := []) ⟨fun x hx => absurd hx List.not_mem_nil, fun x hx => absurd hx List.not_mem_nil⟩ h).2.1
  · unfold mintF at h ⊢
    split
    · exact ⟨by show (0 : Int) ≤ 0; omega, by show (0 : Int) < 4294967296; omega⟩
    · next hr =>
      rw [if_neg hr] at h
      cases hf : freeF P n with
      | none => exact ⟨by show (0 : Int) ≤ 0; omega, by show (0 : Int) < 4294967296; omega⟩
      | some i => rw [hf] at h; exact absurd rfl h
theorem live_bounds {P : Nat → Pl} (ok : Ok P) {n : Nat} (hn : n ≤ 32) {x : Int} (h : x ∈ liveF P n) : 0 ≤ x ∧ x < 4294967296 := by
  unfold liveF at h
  obtain ⟨i, hi, rfl⟩ := List.mem_map.1 h
  rw [List.mem_filter, List.mem_range] at hi
  exact (at_held ok (by omega) hi.2).2
set_option maxHeartbeats 1000000 in
set_option maxRecDepth 100000 in
theorem do19_1 (wl : World) (b rb : Nat) (A : Option Addr) (cc n : Nat) (w : World) (P : Nat → Pl) (hn : n ≤ 32) (S : DS wl b rb A cc n w P) (kd ch r h k : Int) (r0 : 0 ≤ r) (r1 : r ≤ 255) (h0 : 0 ≤ h) (h1 : h < 4294967296)  : Calls Try.prog 19 #[.pointer (some ⟨b, 0, none⟩), .pointer (some ⟨rb, 0, none⟩), .agg #[.int .i64 1, .int .i64 ch, .int .u8 r, .int .u32 h, .int .i64 k]] w fun e w' => ∃ x P', e = .returned (.tuple #[.int .u32 x, .bool true]) ∧ 0 ≤ x ∧ x < 4294967296 ∧ DS wl b rb A cc n w' P' := by
  have S0 := S.alloc (.cells #[.int .i64 1, .int .i64 ch, .int .u8 r, .int .u32 h, .int .i64 k] 33)
  obtain ⟨hn1, hn2⟩ := S.new_ne
  go_enter Try.func19, Try.ntmps19
  go_wp2_with fail
  refine (mint11 _ b P n hn S0.ok S0.tab ch r r0 r1).mono ?_
  have hmb := mint_bounds S.ok hn (c := ch) r0 r1
  have okm := mintF_ok S.ok n ch r r0 r1
  obtain ⟨mh, me, mP, hm⟩ : ∃ mh me mP, mintF P n ch r = (mh, me, mP) := ⟨_, _, _, rfl⟩
  rw [hm] at hmb okm ⊢
  dsimp only at hmb okm ⊢
  rintro e w1 ⟨rfl, T1, O1⟩
  have K1 : w1.cell? ⟨w.heap.size, 1, none⟩ = some (.int .i64 ch) := O1.cell (vcell_new rfl) hn1
  have K2 : w1.cell? ⟨w.heap.size, 2, none⟩ = some (.int .u8 r) := O1.cell (vcell_new rfl) hn1
  have hz1 : w.heap.size < w1.heap.size := Nat.lt_of_lt_of_le (by rw [World.size_alloc]; omega) O1.size
  have R1 := S0.rt.only S0.tab O1
  go_wp2_with fail
  refine (rmint32 _ rb A cc n P hn S.ok R1 ch r r0 r1).mono ?_
  rw [hm]
  dsimp only
  rintro e w2 ⟨rfl, R2, O2⟩
  have S2 := S0.both O1 T1 O2 R2 okm
  go_wp2
  go_ret2
  exact ⟨mh, mP, by first | rfl | simp, hmb.1, hmb.2, S2⟩
set_option maxHeartbeats 1000000 in
set_option maxRecDepth 100000 in
theorem do19_2 (wl : World) (b rb : Nat) (A : Option Addr) (cc n : Nat) (w : World) (P : Nat → Pl) (hn : n ≤ 32) (S : DS wl b rb A cc n w P) (kd ch r h k : Int) (r0 : 0 ≤ r) (r1 : r ≤ 255) (h0 : 0 ≤ h) (h1 : h < 4294967296)  : Calls Try.prog 19 #[.pointer (some ⟨b, 0, none⟩), .pointer (some ⟨rb, 0, none⟩), .agg #[.int .i64 2, .int .i64 ch, .int .u8 r, .int .u32 h, .int .i64 k]] w fun e w' => ∃ x P', e = .returned (.tuple #[.int .u32 x, .bool true]) ∧ 0 ≤ x ∧ x < 4294967296 ∧ DS wl b rb A cc n w' P' := by
  have S0 := S.alloc (.cells #[.int .i64 2, .int .i64 ch, .int .u8 r, .int .u32 h, .int .i64 k] 33)
  obtain ⟨hn1, hn2⟩ := S.new_ne
  have K0 : (w.alloc (.cells #[.int .i64 2, .int .i64 ch, .int .u8 r, .int .u32 h, .int .i64 k] 33)).cell? ⟨w.heap.size, 3, none⟩ = some (.int .u32 h) := vcell_new rfl
  go_enter Try.func19, Try.ntmps19
  go_wp2
  refine start_ (n := 13) (S := fun w' => w'.cell? ⟨w.heap.size, 3, none⟩ = some (.int .u32 h)) (ds := []) #[false, false, false, false, false, false, false, false, false, false, false, false, false] (by kernel_rfl) rfl rfl (K0) (fun hHeld => ?_)
  refine pure_ (i := 0) (N := some 42) (v := ?_) (a' := ?_) #[true, false, false, false, false, false, false, false, false, false, false, false, false] rfl rfl (by kernel_rfl) (fun _ _ _ h => h) (Or.inl ⟨by rfl, ?_⟩) ?_ ?_
  rotate_left
  · intro w'
    go_simp
    with_reducible rfl
  rotate_left
  · simp only [Act.put, List.setIfInBounds_toArray, List.set_cons_zero, List.set_cons_succ, i64_w, i32_w]
    rfl
  refine pure_ (i := 2) (N := some 44) (v := ?_) (a' := ?_) #[true, false, true, false, false, false, false, false, false, false, false, false, false] rfl rfl (by kernel_rfl) (fun _ _ _ h => h) (Or.inl ⟨by rfl, ?_⟩) ?_ ?_
  rotate_left
  · intro w'
    go_simp
    with_reducible rfl
  rotate_left
  · simp only [Act.put, List.setIfInBounds_toArray, List.set_cons_zero, List.set_cons_succ, i64_w, i32_w]
    rfl
  refine pure_ (i := 3) (N := some 45) (v := ?_) (a' := ?_) #[true, false, true, true, false, false, false, false, false, false, false, false, false] rfl rfl (by kernel_rfl) (fun _ _ _ h => h) (Or.inl ⟨by rfl, ?_⟩) ?_ ?_
  rotate_left
  · intro w'
    go_simp
    with_reducible rfl
  rotate_left
  · simp only [Act.put, List.setIfInBounds_toArray, List.set_cons_zero, List.set_cons_succ, i64_w, i32_w]
    rfl
  refine pure_ (i := 6) (N := some 48) (v := ?_) (a' := ?_) #[true, false, true, true, false, false, true, false, false, false, false, false, false] rfl rfl (by kernel_rfl) (fun _ _ _ h => h) (Or.inl ⟨by rfl, ?_⟩) ?_ ?_
  rotate_left
  · intro w'
    go_simp
    with_reducible rfl
  rotate_left
  · simp only [Act.put, List.setIfInBounds_toArray, List.set_cons_zero, List.set_cons_succ, i64_w, i32_w]
    rfl
  refine pure_ (i := 7) (N := some 49) (v := ?_) (a' := ?_) #[true, false, true, true, false, false, true, true, false, false, false, false, false] rfl rfl (by kernel_rfl) (fun _ _ _ h => h) (Or.inl ⟨by rfl, ?_⟩) ?_ ?_
  rotate_left
  · intro w'
    go_simp
    with_reducible rfl
  rotate_left
  · simp only [Act.put, List.setIfInBounds_toArray, List.set_cons_zero, List.set_cons_succ, i64_w, i32_w]
    rfl
  refine take_ (i := 1) (N := some 43) (v := ?_) (a' := ?_) #[true, true, true, true, false, false, true, true, false, false, false, false, false] rfl rfl (by kernel_rfl) (fun _ _ _ h => h) (Or.inl ⟨by rfl, ?_⟩) hHeld ?_ ?_
  rotate_left
  · intro w' s0
    go_simp
    with_reducible rfl
  rotate_left
  · simp only [Act.put, List.setIfInBounds_toArray, List.set_cons_zero, List.set_cons_succ, i64_w, i32_w]
    rfl
  refine take_ (i := 4) (N := some 46) (v := ?_) (a' := ?_) #[true, true, true, true, true, false, true, true, false, false, false, false, false] rfl rfl (by kernel_rfl) (fun _ _ _ h => h) (Or.inl ⟨by rfl, ?_⟩) hHeld ?_ ?_
  rotate_left
  · intro w' s0
    go_simp
    with_reducible rfl
  rotate_left
  · simp only [Act.put, List.setIfInBounds_toArray, List.set_cons_zero, List.set_cons_succ, i64_w, i32_w]
    rfl
  refine take_ (i := 8) (N := some 50) (v := ?_) (a' := ?_) #[true, true, true, true, true, false, true, true, true, false, false, false, false] rfl rfl (by kernel_rfl) (fun _ _ _ h => h) (Or.inl ⟨by rfl, ?_⟩) hHeld ?_ ?_
  rotate_left
  · intro w' s0
    go_simp
    with_reducible rfl
  rotate_left
  · simp only [Act.put, List.setIfInBounds_toArray, List.set_cons_zero, List.set_cons_succ, i64_w, i32_w]
    rfl
  refine one_ (i := 5) (N := some 47) #[true, true, true, true, true, true, true, true, true, false, false, false, false] rfl rfl (by kernel_rfl) (by decide) (fun K hK => ?_)
  refine goes_ Try.func12 (by kernel_rfl) rfl #[.pointer (some ⟨b, 0, none⟩), .int .u32 h] (by rfl) rfl rfl (by simp only [List.map_toArray, List.map_cons, List.map_nil]; rfl) ?_
  with_reducible refine (drop12 _ b P n hn S0.ok S0.tab.drew h h0 h1).mono ?_
  rintro e w3 ⟨rfl, T3, O3⟩
  have K3 : w3.cell? ⟨w.heap.size, 3, none⟩ = some (.int .u32 h) := O3.cell K0 hn1
  have R3 := (S0.below (Below.refl _ _).drew).rt.only S0.tab.drew O3
  refine ⟨_, rfl, ?_⟩
  refine hK.out _ _ (K3) (fun hHeld => ?_)
  clear hK K
  refine norm_ (a' := ?_) ?_ ?_
  rotate_left
  · show Act.put _ (some 47) _ = _
    simp only [Act.put, List.setIfInBounds_toArray, List.set_cons_zero, List.set_cons_succ, i64_w, i32_w]
    rfl
  refine one_ (i := 9) (N := some 51) #[true, true, true, true, true, true, true, true, true, true, false, false, false] rfl rfl (by kernel_rfl) (by decide) (fun K hK => ?_)
  refine goes_ Try.func33 (by kernel_rfl) rfl #[.pointer (some ⟨rb, 0, none⟩), .int .u32 h] (by rfl) rfl rfl (by simp only [List.map_toArray, List.map_cons, List.map_nil]; rfl) ?_
  with_reducible refine (rdrop33 _ rb A cc n P hn S.ok R3 h).mono ?_
  rintro e w4 ⟨rfl, R4, O4⟩
  have S4 := (S0.below (Below.refl _ _).drew).both O3 T3 O4 R4 (dropF_ok S.ok n h)
  have K34 : w4.cell? ⟨w.heap.size, 3, none⟩ = some (.int .u32 h) := O4.cell K3 hn2
  refine ⟨_, rfl, ?_⟩
  refine hK.out _ _ (K34) (fun hHeld => ?_)
  clear hK K
  refine norm_ (a' := ?_) ?_ ?_
  rotate_left
  · show Act.put _ (some 51) _ = _
    simp only [Act.put, List.setIfInBounds_toArray, List.set_cons_zero, List.set_cons_succ, i64_w, i32_w]
    rfl
  refine pure_ (i := 10) (N := some 52) (v := ?_) (a' := ?_) #[true, true, true, true, true, true, true, true, true, true, true, false, false] rfl rfl (by kernel_rfl) (fun _ _ _ h => h) (Or.inl ⟨by rfl, ?_⟩) ?_ ?_
  rotate_left
  · intro w'
    go_simp
    with_reducible rfl
  rotate_left
  · simp only [Act.put, List.setIfInBounds_toArray, List.set_cons_zero, List.set_cons_succ, i64_w, i32_w]
    rfl
  refine pure_ (i := 11) (N := some 6) (v := ?_) (a' := ?_) #[true, true, true, true, true, true, true, true, true, true, true, true, false] rfl rfl (by kernel_rfl) (fun _ _ _ h => h) (Or.inl ⟨by rfl, ?_⟩) ?_ ?_
  rotate_left
  · intro w'
    go_simp
    with_reducible rfl
  rotate_left
  · simp only [Act.put, List.setIfInBounds_toArray, List.set_cons_zero, List.set_cons_succ, i64_w, i32_w]
    rfl
  refine pure_ (i := 12) (N := some 7) (v := ?_) (a' := ?_) #[true, true, true, true, true, true, true, true, true, true, true, true, true] rfl rfl (by kernel_rfl) (fun _ _ _ h => h) (Or.inl ⟨by rfl, ?_⟩) ?_ ?_
  rotate_left
  · intro w'
    go_simp
    with_reducible rfl
  rotate_left
  · simp only [Act.put, List.setIfInBounds_toArray, List.set_cons_zero, List.set_cons_succ, i64_w, i32_w]
    rfl
  refine done_ (by kernel_rfl) ?_
  
  try go_wp2
  go_ret2
  exact ⟨h, _, by first | rfl | simp, h0, h1, S4⟩
set_option maxHeartbeats 1000000 in
set_option maxRecDepth 100000 in
theorem do19_3lo (wl : World) (b rb : Nat) (A : Option Addr) (cc n : Nat) (w : World) (P : Nat → Pl) (hn : n ≤ 32) (S : DS wl b rb A cc n w P) (kd ch r h k : Int) (r0 : 0 ≤ r) (r1 : r ≤ 255) (h0 : 0 ≤ h) (h1 : h < 4294967296) (hk : k < 0) : Calls Try.prog 19 #[.pointer (some ⟨b, 0, none⟩), .pointer (some ⟨rb, 0, none⟩), .agg #[.int .i64 3, .int .i64 ch, .int .u8 r, .int .u32 h, .int .i64 k]] w fun e w' => ∃ x P', e = .returned (.tuple #[.int .u32 x, .bool true]) ∧ 0 ≤ x ∧ x < 4294967296 ∧ DS wl b rb A cc n w' P' := by
  have hkd : decide (k < 0) = true := decide_eq_true hk
  have S0 := S.alloc (.cells #[.int .i64 3, .int .i64 ch, .int .u8 r, .int .u32 h, .int .i64 k] 33)
  obtain ⟨hn1, hn2⟩ := S.new_ne
  go_enter Try.func19, Try.ntmps19
  go_wp2_with fail
  refine (rlive23 _ rb A cc n P hn S0.ok S0.rt).mono ?_
  rintro e w1 ⟨v1, rfl, HR1, hb1⟩
  obtain ⟨Ao, co, rfl⟩ := Kd.R_slice HR1
  have S1 := S0.below hb1
  have hz1 : w.heap.size < w1.heap.size := Nat.lt_of_lt_of_le (by rw [World.size_alloc]; omega) hb1.size
  have K4 : w1.cell? ⟨w.heap.size, 4, none⟩ = some (.int .i64 k) := vcell hb1 (vcell_new rfl)
  go_wp2
  go_ret2
  exact ⟨0, P, by first | rfl | simp, by omega, by omega, S1⟩
set_option maxHeartbeats 1000000 in
set_option maxRecDepth 100000 in
theorem do19_3hi (wl : World) (b rb : Nat) (A : Option Addr) (cc n : Nat) (w : World) (P : Nat → Pl) (hn : n ≤ 32) (S : DS wl b rb A cc n w P) (kd ch r h k : Int) (r0 : 0 ≤ r) (r1 : r ≤ 255) (h0 : 0 ≤ h) (h1 : h < 4294967296) (hk : 0 ≤ k) (hk2 : ((liveF P n).length : Int) ≤ k) : Calls Try.prog 19 #[.pointer (some ⟨b, 0, none⟩), .pointer (some ⟨rb, 0, none⟩), .agg #[.int .i64 3, .int .i64 ch, .int .u8 r, .int .u32 h, .int .i64 k]] w fun e w' => ∃ x P', e = .returned (.tuple #[.int .u32 x, .bool true]) ∧ 0 ≤ x ∧ x < 4294967296 ∧ DS wl b rb A cc n w' P' := by
  have hkd : decide (k < 0) = false := decide_eq_false (by omega)
  have hkd2 : decide (((liveF P n).length : Int) ≤ k) = true := decide_eq_true hk2
  have S0 := S.alloc (.cells #[.int .i64 3, .int .i64 ch, .int .u8 r, .int .u32 h, .int .i64 k] 33)
  obtain ⟨hn1, hn2⟩ := S.new_ne
  go_enter Try.func19, Try.ntmps19
  go_wp2_with fail
  refine (rlive23 _ rb A cc n P hn S0.ok S0.rt).mono ?_
  rintro e w1 ⟨v1, rfl, HR1, hb1⟩
  obtain ⟨Ao, co, rfl⟩ := Kd.R_slice HR1
  have S1 := S0.below hb1
  have hz1 : w.heap.size < w1.heap.size := Nat.lt_of_lt_of_le (by rw [World.size_alloc]; omega) hb1.size
  have K4 : w1.cell? ⟨w.heap.size, 4, none⟩ = some (.int .i64 k) := vcell hb1 (vcell_new rfl)
  go_wp2
  go_ret2
  exact ⟨0, P, by first | rfl | simp, by omega, by omega, S1⟩
set_option maxHeartbeats 1000000 in
set_option maxRecDepth 100000 in
theorem do19_3in (wl : World) (b rb : Nat) (A : Option Addr) (cc n : Nat) (w : World) (P : Nat → Pl) (hn : n ≤ 32) (S : DS wl b rb A cc n w P) (kd ch r h k : Int) (r0 : 0 ≤ r) (r1 : r ≤ 255) (h0 : 0 ≤ h) (h1 : h < 4294967296) (hk : 0 ≤ k) (hk2 : k < ((liveF P n).length : Int)) : Calls Try.prog 19 #[.pointer (some ⟨b, 0, none⟩), .pointer (some ⟨rb, 0, none⟩), .agg #[.int .i64 3, .int .i64 ch, .int .u8 r, .int .u32 h, .int .i64 k]] w fun e w' => ∃ x P', e = .returned (.tuple #[.int .u32 x, .bool true]) ∧ 0 ≤ x ∧ x < 4294967296 ∧ DS wl b rb A cc n w' P' := by
  obtain ⟨q, hq⟩ : ∃ q : Nat, k = (q : Int) := ⟨k.toNat, by omega⟩
  subst hq
  have hq0 : (0 : Int) ≤ (q : Int) := by omega
  have hkd : decide ((q : Int) < 0) = false := decide_eq_false (by omega)
  have hkd2 : decide (((liveF P n).length : Int) ≤ (q : Int)) = false := decide_eq_false (by omega)
  have S0 := S.alloc (.cells #[.int .i64 3, .int .i64 ch, .int .u8 r, .int .u32 h, .int .i64 (q : Int)] 33)
  obtain ⟨hn1, hn2⟩ := S.new_ne
  go_enter Try.func19, Try.ntmps19
  go_wp2_with fail
  refine (rlive23 _ rb A cc n P hn S0.ok S0.rt).mono ?_
  rintro e w1 ⟨v1, rfl, HR1, hb1⟩
  obtain ⟨Ao, co, rfl⟩ := Kd.R_slice HR1
  have S1 := S0.below hb1
  have hz1 : w.heap.size < w1.heap.size := Nat.lt_of_lt_of_le (by rw [World.size_alloc]; omega) hb1.size
  have K4 : w1.cell? ⟨w.heap.size, 4, none⟩ = some (.int .i64 (q : Int)) := vcell hb1 (vcell_new rfl)
  obtain ⟨adl, x, rfl, hx, X1⟩ := R_at HR1 q (by omega)
  have hxb := live_bounds S.ok hn (List.mem_of_getElem? hx)
  have hadn : (w.alloc (.cells #[.int .i64 3, .int .i64 ch, .int .u8 r, .int .u32 h, .int .i64 (q : Int)] 33)).heap.size ≤ (adl.add q).block := by have h_ := Kd.R_base HR1 (adl.add q).block (by rw [add_block]; rfl); exact h_
  obtain ⟨hadb, hada⟩ := S0.old_ne hadn
  have hql : (q : Int) < ((liveF P n).length : Int) := by omega
  go_wp2
  refine start_ (n := 22) (S := fun w' => w'.cell? ⟨w.heap.size, 4, none⟩ = some (.int .i64 (q : Int)) ∧ w'.cell? (adl.add q) = some (.int .u32 x)) (ds := []) #[false, false, false, false, false, false, false, false, false, false, false, false, false, false, false, false, false, false, false, false, false, false] (by kernel_rfl) rfl rfl ⟨K4, X1⟩ (fun hHeld => ?_)
  refine pure_ (i := 0) (N := some 67) (v := ?_) (a' := ?_) #[true, false, false, false, false, false, false, false, false, false, false, false, false, false, false, false, false, false, false, false, false, false] rfl rfl (by kernel_rfl) (fun _ _ _ h => h) (Or.inl ⟨by rfl, ?_⟩) ?_ ?_
  rotate_left
  · intro w'
    go_simp
    with_reducible rfl
  rotate_left
  · simp only [Act.put, List.setIfInBounds_toArray, List.set_cons_zero, List.set_cons_succ, i64_w, i32_w]
    rfl
  refine pure_ (i := 1) (N := some 68) (v := ?_) (a' := ?_) #[true, true, false, false, false, false, false, false, false, false, false, false, false, false, false, false, false, false, false, false, false, false] rfl rfl (by kernel_rfl) (fun _ _ _ h => h) (Or.inl ⟨by rfl, ?_⟩) ?_ ?_
  rotate_left
  · intro w'
    go_simp
    with_reducible rfl
  rotate_left
  · simp only [Act.put, List.setIfInBounds_toArray, List.set_cons_zero, List.set_cons_succ, i64_w, i32_w]
    rfl
  refine pure_ (i := 5) (N := some 72) (v := ?_) (a' := ?_) #[true, true, false, false, false, true, false, false, false, false, false, false, false, false, false, false, false, false, false, false, false, false] rfl rfl (by kernel_rfl) (fun _ _ _ h => h) (Or.inl ⟨by rfl, ?_⟩) ?_ ?_
  rotate_left
  · intro w'
    go_simp
    with_reducible rfl
  rotate_left
  · simp only [Act.put, List.setIfInBounds_toArray, List.set_cons_zero, List.set_cons_succ, i64_w, i32_w]
    rfl
  refine pure_ (i := 6) (N := some 73) (v := ?_) (a' := ?_) #[true, true, false, false, false, true, true, false, false, false, false, false, false, false, false, false, false, false, false, false, false, false] rfl rfl (by kernel_rfl) (fun _ _ _ h => h) (Or.inl ⟨by rfl, ?_⟩) ?_ ?_
  rotate_left
  · intro w'
    go_simp
    with_reducible rfl
  rotate_left
  · simp only [Act.put, List.setIfInBounds_toArray, List.set_cons_zero, List.set_cons_succ, i64_w, i32_w]
    rfl
  refine pure_ (i := 7) (N := some 74) (v := ?_) (a' := ?_) #[true, true, false, false, false, true, true, true, false, false, false, false, false, false, false, false, false, false, false, false, false, false] rfl rfl (by kernel_rfl) (fun _ _ _ h => h) (Or.inl ⟨by rfl, ?_⟩) ?_ ?_
  rotate_left
  · intro w'
    go_simp
    with_reducible rfl
  rotate_left
  · simp only [Act.put, List.setIfInBounds_toArray, List.set_cons_zero, List.set_cons_succ, i64_w, i32_w]
    rfl
  refine pure_ (i := 12) (N := some 79) (v := ?_) (a' := ?_) #[true, true, false, false, false, true, true, true, false, false, false, false, true, false, false, false, false, false, false, false, false, false] rfl rfl (by kernel_rfl) (fun _ _ _ h => h) (Or.inl ⟨by rfl, ?_⟩) ?_ ?_
  rotate_left
  · intro w'
    go_simp
    with_reducible rfl
  rotate_left
  · simp only [Act.put, List.setIfInBounds_toArray, List.set_cons_zero, List.set_cons_succ, i64_w, i32_w]
    rfl
  refine pure_ (i := 13) (N := some 80) (v := ?_) (a' := ?_) #[true, true, false, false, false, true, true, true, false, false, false, false, true, true, false, false, false, false, false, false, false, false] rfl rfl (by kernel_rfl) (fun _ _ _ h => h) (Or.inl ⟨by rfl, ?_⟩) ?_ ?_
  rotate_left
  · intro w'
    go_simp
    with_reducible rfl
  rotate_left
  · simp only [Act.put, List.setIfInBounds_toArray, List.set_cons_zero, List.set_cons_succ, i64_w, i32_w]
    rfl
  refine pure_ (i := 14) (N := some 81) (v := ?_) (a' := ?_) #[true, true, false, false, false, true, true, true, false, false, false, false, true, true, true, false, false, false, false, false, false, false] rfl rfl (by kernel_rfl) (fun _ _ _ h => h) (Or.inl ⟨by rfl, ?_⟩) ?_ ?_
  rotate_left
  · intro w'
    go_simp
    with_reducible rfl
  rotate_left
  · simp only [Act.put, List.setIfInBounds_toArray, List.set_cons_zero, List.set_cons_succ, i64_w, i32_w]
    rfl
  refine take_ (i := 2) (N := some 69) (v := ?_) (a' := ?_) #[true, true, true, false, false, true, true, true, false, false, false, false, true, true, true, false, false, false, false, false, false, false] rfl rfl (by kernel_rfl) (fun _ _ _ h => h) (Or.inl ⟨by rfl, ?_⟩) hHeld ?_ ?_
  rotate_left
  · rintro w' ⟨s0, s1⟩
    go_simp
    with_reducible rfl
  rotate_left
  · simp only [Act.put, List.setIfInBounds_toArray, List.set_cons_zero, List.set_cons_succ, i64_w, i32_w]
    rfl
  refine pure_ (i := 3) (N := some 70) (v := ?_) (a' := ?_) #[true, true, true, true, false, true, true, true, false, false, false, false, true, true, true, false, false, false, false, false, false, false] rfl rfl (by kernel_rfl) (fun _ _ _ h => h) (Or.inl ⟨by rfl, ?_⟩) ?_ ?_
  rotate_left
  · intro w'
    go_simp
    with_reducible rfl
  rotate_left
  · simp only [Act.put, List.setIfInBounds_toArray, List.set_cons_zero, List.set_cons_succ, i64_w, i32_w]
    rfl
  refine take_ (i := 4) (N := some 71) (v := ?_) (a' := ?_) #[true, true, true, true, true, true, true, true, false, false, false, false, true, true, true, false, false, false, false, false, false, false] rfl rfl (by kernel_rfl) (fun _ _ _ h => h) (Or.inl ⟨by rfl, ?_⟩) hHeld ?_ ?_
  rotate_left
  · rintro w' ⟨s0, s1⟩
    go_simp
    with_reducible rfl
  rotate_left
  · simp only [Act.put, List.setIfInBounds_toArray, List.set_cons_zero, List.set_cons_succ, i64_w, i32_w]
    rfl
  refine take_ (i := 8) (N := some 75) (v := ?_) (a' := ?_) #[true, true, true, true, true, true, true, true, true, false, false, false, true, true, true, false, false, false, false, false, false, false] rfl rfl (by kernel_rfl) (fun _ _ _ h => h) (Or.inl ⟨by rfl, ?_⟩) hHeld ?_ ?_
  rotate_left
  · rintro w' ⟨s0, s1⟩
    go_simp
    with_reducible rfl
  rotate_left
  · simp only [Act.put, List.setIfInBounds_toArray, List.set_cons_zero, List.set_cons_succ, i64_w, i32_w]
    rfl
  refine pure_ (i := 9) (N := some 76) (v := ?_) (a' := ?_) #[true, true, true, true, true, true, true, true, true, true, false, false, true, true, true, false, false, false, false, false, false, false] rfl rfl (by kernel_rfl) (fun _ _ _ h => h) (Or.inl ⟨by rfl, ?_⟩) ?_ ?_
  rotate_left
  · intro w'
    go_simp
    with_reducible rfl
  rotate_left
  · simp only [Act.put, List.setIfInBounds_toArray, List.set_cons_zero, List.set_cons_succ, i64_w, i32_w]
    rfl
  refine take_ (i := 10) (N := some 77) (v := ?_) (a' := ?_) #[true, true, true, true, true, true, true, true, true, true, true, false, true, true, true, false, false, false, false, false, false, false] rfl rfl (by kernel_rfl) (fun _ _ _ h => h) (Or.inl ⟨by rfl, ?_⟩) hHeld ?_ ?_
  rotate_left
  · rintro w' ⟨s0, s1⟩
    go_simp
    with_reducible rfl
  rotate_left
  · simp only [Act.put, List.setIfInBounds_toArray, List.set_cons_zero, List.set_cons_succ, i64_w, i32_w]
    rfl
  refine take_ (i := 15) (N := some 82) (v := ?_) (a' := ?_) #[true, true, true, true, true, true, true, true, true, true, true, false, true, true, true, true, false, false, false, false, false, false] rfl rfl (by kernel_rfl) (fun _ _ _ h => h) (Or.inl ⟨by rfl, ?_⟩) hHeld ?_ ?_
  rotate_left
  · rintro w' ⟨s0, s1⟩
    go_simp
    with_reducible rfl
  rotate_left
  · simp only [Act.put, List.setIfInBounds_toArray, List.set_cons_zero, List.set_cons_succ, i64_w, i32_w]
    rfl
  refine pure_ (i := 16) (N := some 83) (v := ?_) (a' := ?_) #[true, true, true, true, true, true, true, true, true, true, true, false, true, true, true, true, true, false, false, false, false, false] rfl rfl (by kernel_rfl) (fun _ _ _ h => h) (Or.inl ⟨by rfl, ?_⟩) ?_ ?_
  rotate_left
  · intro w'
    go_simp
    with_reducible rfl
  rotate_left
  · simp only [Act.put, List.setIfInBounds_toArray, List.set_cons_zero, List.set_cons_succ, i64_w, i32_w]
    rfl
  refine take_ (i := 17) (N := some 84) (v := ?_) (a' := ?_) #[true, true, true, true, true, true, true, true, true, true, true, false, true, true, true, true, true, true, false, false, false, false] rfl rfl (by kernel_rfl) (fun _ _ _ h => h) (Or.inl ⟨by rfl, ?_⟩) hHeld ?_ ?_
  rotate_left
  · rintro w' ⟨s0, s1⟩
    go_simp
    with_reducible rfl
  rotate_left
  · simp only [Act.put, List.setIfInBounds_toArray, List.set_cons_zero, List.set_cons_succ, i64_w, i32_w]
    rfl
  refine one_ (i := 11) (N := some 78) #[true, true, true, true, true, true, true, true, true, true, true, true, true, true, true, true, true, true, false, false, false, false] rfl rfl (by kernel_rfl) (by decide) (fun K hK => ?_)
  refine goes_ Try.func12 (by kernel_rfl) rfl #[.pointer (some ⟨b, 0, none⟩), .int .u32 x] (by rfl) rfl rfl (by simp only [List.map_toArray, List.map_cons, List.map_nil]; rfl) ?_
  with_reducible refine (drop12 _ b P n hn S1.ok S1.tab.drew x hxb.1 hxb.2).mono ?_
  rintro e w3 ⟨rfl, T3, O3⟩
  have K43 : w3.cell? ⟨w.heap.size, 4, none⟩ = some (.int .i64 (q : Int)) := O3.cell K4 hn1
  have X3 : w3.cell? (adl.add q) = some (.int .u32 x) := O3.cell X1 hadb
  have R3 := (S1.below (Below.refl _ _).drew).rt.only S1.tab.drew O3
  refine ⟨_, rfl, ?_⟩
  refine hK.out _ _ ⟨K43, X3⟩ (fun hHeld => ?_)
  clear hK K
  refine norm_ (a' := ?_) ?_ ?_
  rotate_left
  · show Act.put _ (some 78) _ = _
    simp only [Act.put, List.setIfInBounds_toArray, List.set_cons_zero, List.set_cons_succ, i64_w, i32_w]
    rfl
  refine one_ (i := 18) (N := some 85) #[true, true, true, true, true, true, true, true, true, true, true, true, true, true, true, true, true, true, true, false, false, false] rfl rfl (by kernel_rfl) (by decide) (fun K hK => ?_)
  refine goes_ Try.func33 (by kernel_rfl) rfl #[.pointer (some ⟨rb, 0, none⟩), .int .u32 x] (by rfl) rfl rfl (by simp only [List.map_toArray, List.map_cons, List.map_nil]; rfl) ?_
  with_reducible refine (rdrop33 _ rb A cc n P hn S.ok R3 x).mono ?_
  rintro e w4 ⟨rfl, R4, O4⟩
  have S4 := (S1.below (Below.refl _ _).drew).both O3 T3 O4 R4 (dropF_ok S.ok n x)
  have K44 : w4.cell? ⟨w.heap.size, 4, none⟩ = some (.int .i64 (q : Int)) := O4.cell K43 hn2
  have X4 : w4.cell? (adl.add q) = some (.int .u32 x) := O4.cell X3 hada
  refine ⟨_, rfl, ?_⟩
  refine hK.out _ _ ⟨K44, X4⟩ (fun hHeld => ?_)
  clear hK K
  refine norm_ (a' := ?_) ?_ ?_
  rotate_left
  · show Act.put _ (some 85) _ = _
    simp only [Act.put, List.setIfInBounds_toArray, List.set_cons_zero, List.set_cons_succ, i64_w, i32_w]
    rfl
  refine pure_ (i := 19) (N := some 86) (v := ?_) (a' := ?_) #[true, true, true, true, true, true, true, true, true, true, true, true, true, true, true, true, true, true, true, true, false, false] rfl rfl (by kernel_rfl) (fun _ _ _ h => h) (Or.inl ⟨by rfl, ?_⟩) ?_ ?_
  rotate_left
  · intro w'
    go_simp
    with_reducible rfl
  rotate_left
  · simp only [Act.put, List.setIfInBounds_toArray, List.set_cons_zero, List.set_cons_succ, i64_w, i32_w]
    rfl
  refine pure_ (i := 20) (N := some 6) (v := ?_) (a' := ?_) #[true, true, true, true, true, true, true, true, true, true, true, true, true, true, true, true, true, true, true, true, true, false] rfl rfl (by kernel_rfl) (fun _ _ _ h => h) (Or.inl ⟨by rfl, ?_⟩) ?_ ?_
  rotate_left
  · intro w'
    go_simp
    with_reducible rfl
  rotate_left
  · simp only [Act.put, List.setIfInBounds_toArray, List.set_cons_zero, List.set_cons_succ, i64_w, i32_w]
    rfl
  refine pure_ (i := 21) (N := some 7) (v := ?_) (a' := ?_) #[true, true, true, true, true, true, true, true, true, true, true, true, true, true, true, true, true, true, true, true, true, true] rfl rfl (by kernel_rfl) (fun _ _ _ h => h) (Or.inl ⟨by rfl, ?_⟩) ?_ ?_
  rotate_left
  · intro w'
    go_simp
    with_reducible rfl
  rotate_left
  · simp only [Act.put, List.setIfInBounds_toArray, List.set_cons_zero, List.set_cons_succ, i64_w, i32_w]
    rfl
  refine done_ (by kernel_rfl) ?_
  
  try go_wp2
  go_ret2
  exact ⟨x, _, by first | rfl | simp, hxb.1, hxb.2, S4⟩
set_option maxHeartbeats 1000000 in
set_option maxRecDepth 100000 in
theorem do19_o (wl : World) (b rb : Nat) (A : Option Addr) (cc n : Nat) (w : World) (P : Nat → Pl) (hn : n ≤ 32) (S : DS wl b rb A cc n w P) (kd ch r h k : Int) (r0 : 0 ≤ r) (r1 : r ≤ 255) (h0 : 0 ≤ h) (h1 : h < 4294967296) (hk1 : kd ≠ 1) (hk2 : kd ≠ 2) (hk3 : kd ≠ 3) : Calls Try.prog 19 #[.pointer (some ⟨b, 0, none⟩), .pointer (some ⟨rb, 0, none⟩), .agg #[.int .i64 kd, .int .i64 ch, .int .u8 r, .int .u32 h, .int .i64 k]] w fun e w' => ∃ x P', e = .returned (.tuple #[.int .u32 x, .bool true]) ∧ 0 ≤ x ∧ x < 4294967296 ∧ DS wl b rb A cc n w' P' := by
  have hk1d : decide (kd = 1) = false := decide_eq_false hk1
  have hk2d : decide (kd = 2) = false := decide_eq_false hk2
  have hk3d : decide (kd = 3) = false := decide_eq_false hk3
  have hk1b : (kd == 1) = false := beq_eq_false_iff_ne.2 hk1
  have hk2b : (kd == 2) = false := beq_eq_false_iff_ne.2 hk2
  have hk3b : (kd == 3) = false := beq_eq_false_iff_ne.2 hk3
  have S0 := S.alloc (.cells #[.int .i64 kd, .int .i64 ch, .int .u8 r, .int .u32 h, .int .i64 k] 33)
  go_enter Try.func19, Try.ntmps19
  go_wp2
  go_ret2
  exact ⟨0, P, by first | rfl | simp, by omega, by omega, S0⟩
theorem do19 (wl : World) (b rb : Nat) (A : Option Addr) (cc n : Nat) (w : World) (P : Nat → Pl) (hn : n ≤ 32) (S : DS wl b rb A cc n w P) (kd ch r h k : Int) (r0 : 0 ≤ r) (r1 : r ≤ 255) (h0 : 0 ≤ h) (h1 : h < 4294967296) : Calls Try.prog 19 #[.pointer (some ⟨b, 0, none⟩), .pointer (some ⟨rb, 0, none⟩), .agg #[.int .i64 kd, .int .i64 ch, .int .u8 r, .int .u32 h, .int .i64 k]] w fun e w' => ∃ x P', e = .returned (.tuple #[.int .u32 x, .bool true]) ∧ 0 ≤ x ∧ x < 4294967296 ∧ DS wl b rb A cc n w' P' := by
  by_cases hk1 : kd = 1
  · subst hk1; exact do19_1 wl b rb A cc n w P hn S 1 ch r h k r0 r1 h0 h1
  · by_cases hk2 : kd = 2
    · subst hk2; exact do19_2 wl b rb A cc n w P hn S 2 ch r h k r0 r1 h0 h1
    · by_cases hk3 : kd = 3
      · subst hk3
        by_cases hl : k < 0
        · exact do19_3lo wl b rb A cc n w P hn S 3 ch r h k r0 r1 h0 h1 hl
        · by_cases hh : ((liveF P n).length : Int) ≤ k
          · exact do19_3hi wl b rb A cc n w P hn S 3 ch r h k r0 r1 h0 h1 (by omega) hh
          · exact do19_3in wl b rb A cc n w P hn S 3 ch r h k r0 r1 h0 h1 (by omega) (by omega)
      · exact do19_o wl b rb A cc n w P hn S kd ch r h k r0 r1 h0 h1 hk1 hk2 hk3
end Go.Proofs.Ytcpaakhmcpeagaa.Q
