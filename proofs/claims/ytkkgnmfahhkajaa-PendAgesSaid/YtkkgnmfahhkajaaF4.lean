/- Layer 18: a copy of one's own. -/
import Derived.Test.YtkkgnmfahhkajaaV
import Derived.Test.YtkkgnmfahhkajaaQx0
namespace Go.Proofs.Ytkkgnmfahhkajaa.Q
open Go.RowKit Go.Proofs.YtkkgnmfahhkajaaW.PrintWords Go.Proofs.YtkkgnmfahhkajaaW.PrintMore
set_option linter.unusedVariables false
set_option linter.unusedSimpArgs false
theorem k42_flat {w w' : World} {base : Nat} {ok' : Nat → Prop} {x : S42} {cs : List Value} (h : k42.K w x cs) : k42.M w' base ok' x cs := by
  rw [k42_open h]; exact k42_mkM _ _ _ x
/-- What make lays: n operations, none begun. -/
def zs42 : Array Value := #[.int .i64 0, .int .u8 0, .int .u8 0, .int .u8 0, .int .u32 0, .int .u64 0, .int .i64 0, .int .i64 0, .int .i64 0, .int .u64 0, .int .u64 0, .int .u64 0]
def mk42 (n : Nat) : Array Value := madeCells zs42 (n * 12)
theorem run_mk42 (n : Nat) (hn : n ≤ 1000) (W : World) : (Instr.makeSlice 22 (.int .i64 n) (.int .i64 n)).run Try.prog W = .ok (.slice (some ⟨W.heap.size, 0, none⟩) n n) (W.alloc (.cells (mk42 n) 42)) := by
  obtain ⟨i0, hi, hzz⟩ := Option.map_eq_some_iff.1 info42
  simp only [Prod.mk.injEq] at hzz
  obtain ⟨hz0, hz1, hz2⟩ := hzz
  have h := run_make (P := Try.prog) W 22 42 i0 _ Try.underlying22 hi hz0 .i64 .i64 (n : Int) (n : Int) (by omega) (by omega) (by rw [hz2]; omega) (by omega)
  rw [hz1] at h
  simp only [Int.toNat_natCast] at h
  exact h
theorem mk42_R (n : Nat) (hn : n ≤ 1000) (W : World) (base r : Nat) (hb : base ≤ W.heap.size) (er : W.heap.size = r) : k42.R 42 (W.alloc (.cells (mk42 n) 42)) base (fun _ => True) (.slice (some ⟨r, 0, none⟩) n n) (List.replicate n z42) := by
  subst er
  have hr : Reps (k42.M (W.alloc (.cells (mk42 n) 42)) base (fun k => True ∧ some k ≠ (Value.slice (some ⟨W.heap.size, 0, none⟩) n n).ownBlock)) 12 (List.replicate n z42) (mk42 n).toList := Kd.reps_made (z := .agg zs42) rfl (by decide) (k42_mkM _ _ _ z42) n
  refine ⟨fun _ _ => trivial, (mk42 n).toList, ?_, hr⟩
  have h := World.ownsRow_lit (base := base) (e := 42) (size := 12) W (mk42 n) n hb (by simp only [maxLen]; omega) (by have := hr.1; simpa using this)
  show World.ownsRow _ base 42 12 _ (List.replicate n z42).length _
  rw [List.length_replicate]
  exact h
section
variable {ops : Array Oper} {rest : List Oper} {o : Oper} {a : Act} {Q : Exit → Act → World → Prop}
/-- copy of as many operations as the row has. -/
theorem wpList_copy42 {w0 W : World} (base : Nat) (hgd : o.guard = none) (d s : Operand) (ho : o.op = .call { callee := .builtin .copy, args := #[d, s], argTypes := #[22, 22] })
    (v : Value) (l0 l : List S42) (A : Option Addr) (c : Nat) (hd : a.eval d = v) (hs : a.eval s = .slice A l.length c) (HO : k42.R 42 W base (fun _ => True) v l0) (hl : l0.length = l.length) (hC : k42.C W A l.length l) (HB : Below base w0 W)
    (h : ∀ w1, k42.R 42 w1 base (fun _ => True) v l → Below base w0 w1 → W.grownBy w1 v.ownBlock → wpList Try.prog ops Q rest (a.put o.dst (.int .i64 l.length)) w1) : wpList Try.prog ops Q (o :: rest) a W := by
  obtain ⟨i0, hi, hzz⟩ := Option.map_eq_some_iff.1 info42
  simp only [Prod.mk.injEq] at hzz
  obtain ⟨hz0, hz1, hz2⟩ := hzz
  obtain ⟨hok, inner, ⟨hlen, hv⟩, hrep⟩ := HO
  by_cases h0 : l.length = 0
  · have e0 : l0 = [] := List.eq_nil_of_length_eq_zero (by omega)
    have el : l = [] := List.eq_nil_of_length_eq_zero h0
    subst e0; subst el
    have hv2 : ∃ dp dc, v = .slice dp 0 dc := by
      rcases hv with ⟨rfl, _⟩ | ⟨g, cap, cur, rfl, _⟩
      · exact ⟨_, _, rfl⟩
      · exact ⟨_, _, rfl⟩
    obtain ⟨dp, dc, rfl⟩ := hv2
    have hrun : (Builtin.copy_ #[22, 22] o.type #[.slice dp 0 dc, .slice A 0 c]).run Try.prog W = .ok (goInt 0) W := by
      have hl' : ∀ (x : Addr), (loadCells x 0).run Try.prog W = .ok #[] W := fun x => by simpa using run_loadCells_list (P := Try.prog) W x [] (by simp)
      cases dp <;> cases A <;> simp [Builtin.copy_, run_underlying Try.underlying22, Builtin.lenOf, Builtin.firstCells, sizeOf, typeInfo, hi, storeCells, hl']
    refine wpList_plain hgd fun K hK => ?_
    unfold Oper.wp
    simp [execOp, ho, resolve, invoke, builtin, hd, hs, hrun, Result.andThen]
    exact hK _ _ (h W ⟨hok, inner, ⟨hlen, hv⟩, hrep⟩ HB ⟨rfl, rfl, rfl, Nat.le_refl _, fun _ _ _ => rfl⟩)
  · rcases hv with ⟨rfl, h1⟩ | ⟨g, cap, cur, rfl, hg, hh, hle, hcap, hsz, htake⟩
    · omega
    · have hsz : cur.size = cap * 12 := hsz
      obtain ⟨ad, rfl, _⟩ := hC.2.2 (by omega)
      obtain ⟨cs, hrc, hcell⟩ := ReadsRow.inner_ hC
      have hcl : cs.length = l.length * 12 := hrc.1
      have h1 : ∀ v ∈ cs, v.oneCell' = true := by
        intro v hv
        obtain ⟨j, hj, rfl⟩ := List.getElem_of_mem hv
        have hq : j / 12 < l.length := by omega
        have hk := k42.K_one (hrc.2 (j / 12) _ (List.getElem?_eq_getElem hq))
        refine hk _ ?_
        refine List.mem_iff_getElem?.2 ⟨j % 12, ?_⟩
        show (List.take 12 (List.drop (j / 12 * 12) cs))[j % 12]? = _
        rw [List.getElem?_take, if_pos (Nat.mod_lt _ (by decide)), List.getElem?_drop, show j / 12 * 12 + j % 12 = j by omega, List.getElem?_eq_getElem hj]
      have hl1 := run_loadCells_list (P := Try.prog) W ad cs hcell
      have hst := run_storeCells_at Try.prog g 0 42 cs 0 cur W hh (by rw [hcl, hsz]; have := Nat.mul_le_mul_right 12 hle; omega) h1
      rw [hcl] at hl1
      have hrun : (Builtin.copy_ #[22, 22] o.type #[.slice (some ⟨g, 0, none⟩) l0.length cap, .slice (some ad) l.length c]).run Try.prog W = .ok (goInt l.length) (W.setRow g (cs ++ cur.toList.drop cs.length).toArray) := by
        rw [hl]
        simp only [Nat.zero_add, List.take_zero, List.nil_append] at hst
        simp [Builtin.copy_, run_underlying Try.underlying22, Builtin.lenOf, Builtin.firstCells, sizeOf, typeInfo, hi, hz1, show k42.sz = 12 from rfl, hl1, hst]
      refine wpList_plain hgd fun K hK => ?_
      unfold Oper.wp
      simp [execOp, ho, resolve, invoke, builtin, hd, hs, hrun, Result.andThen]
      have hb2 : Below base w0 (W.setRow g (cs ++ cur.toList.drop cs.length).toArray) := HB.trans ⟨rfl, rfl, rfl, by simp [World.setRow], fun k hk => setRow_other W g k _ (by omega)⟩
      have hh2 := setRow_heap W g cur (cs ++ cur.toList.drop cs.length).toArray 42 _ hh
      refine hK _ _ (h _ ⟨hok, cs, ⟨by rw [hcl]; rfl, .inr ⟨g, cap, _, by rw [hl], hg, hh2, by omega, hcap, ?_, ?_⟩⟩, hrc.imp_ (fun _ _ hp => k42_flat hp)⟩ hb2 ⟨rfl, rfl, rfl, by simp [World.setRow], fun k _ hne => setRow_other W g k _ (fun e => hne (by rw [e]; rfl))⟩)
      · simp only [List.size_toArray, List.length_append, List.length_drop, Array.length_toList]
        have := Nat.mul_le_mul_right 12 hle
        show cs.length + (cur.size - cs.length) = cap * 12
        omega
      · show List.take (l.length * 12) (cs ++ _) = cs
        rw [← hcl, List.take_left']
        rfl
end
theorem alloc4 (w : World) (o1 o2 o3 o4 : Obj) : ((((w.alloc o1).alloc o2).alloc o3).alloc o4).drew.heap[w.heap.size + 1]? = some o2 ∧ ((((w.alloc o1).alloc o2).alloc o3).alloc o4).drew.heap[w.heap.size + 1 + 1]? = some o3 ∧ ((((w.alloc o1).alloc o2).alloc o3).alloc o4).drew.heap[w.heap.size + 1 + 1 + 1]? = some o4 ∧ ((((w.alloc o1).alloc o2).alloc o3).alloc o4).drew.heap.size = w.heap.size + 1 + 1 + 1 + 1 := by
  have z1 : (w.alloc o1).heap.size = w.heap.size + 1 := by rw [World.size_alloc]
  have z2 : ((w.alloc o1).alloc o2).heap.size = w.heap.size + 1 + 1 := by rw [World.size_alloc, z1]
  have z3 : (((w.alloc o1).alloc o2).alloc o3).heap.size = w.heap.size + 1 + 1 + 1 := by rw [World.size_alloc, z2]
  have z4 : ((((w.alloc o1).alloc o2).alloc o3).alloc o4).heap.size = w.heap.size + 1 + 1 + 1 + 1 := by rw [World.size_alloc, z3]
  have h2 := heap_alloc_new (w.alloc o1) o2
  have h3 := heap_alloc_new ((w.alloc o1).alloc o2) o3
  have h4 := heap_alloc_new (((w.alloc o1).alloc o2).alloc o3) o4
  rw [z1] at h2
  rw [z2] at h3
  rw [z3] at h4
  exact ⟨blk_alloc (blk_alloc h2 _) _, blk_alloc h3 _, h4, z4⟩
theorem blk3 {W : World} {b t : Nat} {u0 u1 u2 : Value} (h : W.heap[b]? = some (.cells #[u0, u1, u2] t (0, 0))) : W.cell? ⟨b, 0, none⟩ = some u0 ∧ W.cell? ⟨b, 1, none⟩ = some u1 ∧ W.cell? ⟨b, 2, none⟩ = some u2 ∧ ∀ o, W.frozen? ⟨b, o, none⟩ = false := by
  unfold World.cell? World.frozen?
  rw [show W.heap[b]? = _ from h]
  exact ⟨rfl, rfl, rfl, fun o => by rw [show W.heap[b]? = _ from h]; simp⟩
theorem put3 {W : World} {g t : Nat} {u0 u1 u2 : Value} (h : W.heap[g]? = some (.cells #[u0, u1, u2] t (0, 0))) (v0 v1 v2 : Value) : (((W.setCell ⟨g, 0, none⟩ v0).setCell ⟨g, 1, none⟩ v1).setCell ⟨g, 2, none⟩ v2).heap[g]? = some (.cells #[v0, v1, v2] t (0, 0)) :=
  blk_put (cs := #[v0, v1, u2]) (blk_put (cs := #[v0, u1, u2]) (blk_put (cs := #[u0, u1, u2]) h 0 _ rfl) 1 _ rfl) 2 _ rfl
set_option maxHeartbeats 1000000 in
set_option maxRecDepth 100000 in
theorem pend_own26 (a b : Int) (A : Option Addr) (c : Nat) (l : List S42) (w : World) (hn : l.length ≤ 1000) (hr : Kd.C k42 w A l.length l) (hc : l.length ≤ c) : Calls Try.prog 26 #[.agg #[.int .i64 a, .int .i64 b, .slice A l.length c]] w fun e w' => ∃ g, e = .returned (.agg #[.int .i64 a, .int .i64 b, .slice (some ⟨g, 0, none⟩) l.length l.length]) ∧ Kd.R k42 42 w' w.heap.size (fun _ => True) (.slice (some ⟨g, 0, none⟩) l.length l.length) l ∧ Below w.heap.size w w' := by
  have hmk := run_mk42 l.length hn
  have hmR := mk42_R l.length hn
  generalize hmq : mk42 l.length = mq at hmk hmR
  go_enter Try.func26, Try.ntmps26
  go_wp2
  go_region
  all_goals go_wp2_with ((with_reducible refine gate_builtin (b := .copy) (xs := #[.tmp 14, .tmp 16]) rfl ?_); refine wpList_copy42 (w0 := w) w.heap.size rfl (.tmp 14) (.tmp 16) rfl (.slice (some ⟨_, 0, none⟩) l.length l.length) (List.replicate l.length z42) l A c rfl rfl ?aO ?aL ?aC ?aB ?_; (case aL => exact List.length_replicate); (case aO => first | exact Kd.R_drew (Kd.R_alloc (hmR ((w.alloc (.cells #[.int .i64 a, .int .i64 b, .slice A l.length c] 24)).alloc (.cells #[.int .i64 0, .int .i64 0, .slice none 0 0] 24)) w.heap.size _ (by simp only [World.size_alloc]; omega) (by simp only [World.size_alloc])) _) | exact Kd.R_drew (hmR (((w.alloc (.cells #[.int .i64 a, .int .i64 b, .slice A l.length c] 24)).alloc (.cells #[.int .i64 0, .int .i64 0, .slice none 0 0] 24)).alloc (.cells #[.int .i64 a, .int .i64 b, .slice (some ⟨w.heap.size + 1 + 1 + 1, 0, none⟩) l.length l.length] 24)) w.heap.size _ (by simp only [World.size_alloc]; omega) (by simp only [World.size_alloc]))); (case aC => exact Kd.C_below hr (by repeat (first | (with_reducible exact Below.refl _ _) | (with_reducible refine vbelow_alloc ?_ _) | (with_reducible refine vbelow_drew ?_) | (with_reducible refine vbelow_drewN ?_ _) | (with_reducible refine vbelow_set ?_ (by first | exact Nat.le_refl _ | (dsimp only; omega) | omega))))); (case aB => exact (by repeat (first | (with_reducible exact Below.refl _ _) | (with_reducible refine vbelow_alloc ?_ _) | (with_reducible refine vbelow_drew ?_) | (with_reducible refine vbelow_drewN ?_ _) | (with_reducible refine vbelow_set ?_ (by first | exact Nat.le_refl _ | (dsimp only; omega) | omega))))); intro w4 ho hb4 hg4; (first | (have B := alloc4 w (.cells #[.int .i64 a, .int .i64 b, .slice A l.length c] 24) (.cells #[.int .i64 0, .int .i64 0, .slice none 0 0] 24) (.cells mq 42) (.cells #[.int .i64 a, .int .i64 b, .slice (some ⟨w.heap.size + 1 + 1, 0, none⟩) l.length l.length] 24); have H2 := (hg4.block (w.heap.size + 1) (by rw [B.2.2.2]; omega) (by simp [Value.ownBlock])).trans B.1; have HX := (hg4.block (w.heap.size + 1 + 1 + 1) (by rw [B.2.2.2]; omega) (by simp [Value.ownBlock])).trans B.2.2.1) | (have B := alloc4 w (.cells #[.int .i64 a, .int .i64 b, .slice A l.length c] 24) (.cells #[.int .i64 0, .int .i64 0, .slice none 0 0] 24) (.cells #[.int .i64 a, .int .i64 b, .slice (some ⟨w.heap.size + 1 + 1 + 1, 0, none⟩) l.length l.length] 24) (.cells mq 42); have H2 := (hg4.block (w.heap.size + 1) (by rw [B.2.2.2]; omega) (by simp [Value.ownBlock])).trans B.1; have HX := (hg4.block (w.heap.size + 1 + 1) (by rw [B.2.2.2]; omega) (by simp [Value.ownBlock])).trans B.2.1)); obtain ⟨X0, X1, X2, XF⟩ := blk3 HX; obtain ⟨Y0, Y1, Y2, YF⟩ := blk3 H2; have F0 := YF 0; have F1 := YF 1; have F2 := YF 2; clear YF XF)
  all_goals (refine bodyPost_ret (results_cell_row rfl _ _ (w.heap.size + 1) 24 #[.int .i64 a, .int .i64 b, .slice (some ⟨_, 0, none⟩) l.length l.length] (0, 0) _ rfl (put3 H2 _ _ _) Try.underlying24 rfl (by kernel_rfl)) rfl ?_; refine ⟨_, rfl, Kd.R_mono (Kd.R_far (Kd.R_far (Kd.R_far (Kd.R_types ho H2 (by decide)) (p := ⟨w.heap.size + 1, 0, none⟩) (fun k hk => hk.2) _) (p := ⟨w.heap.size + 1, 1, none⟩) (fun k hk => hk.2) _) (p := ⟨w.heap.size + 1, 2, none⟩) (fun _ hk => hk.2) _) (fun _ _ => trivial), vbelow_set (vbelow_set (vbelow_set hb4 (Nat.le_succ _)) (Nat.le_succ _)) (Nat.le_succ _)⟩)
def pend_own.f (a0_0 : Int) (a0_1 : Int) (l0_2 : List S42) : Option (Int × Int × List S42) := if l0_2.length ≤ 1000 then some (a0_0, a0_1, l0_2) else none
theorem pend_own.calls (a0_0 : Int) (a0_1 : Int) (A0_2 : Option Addr) (c0_2 : Nat) (l0_2 : List S42) (r1 : Int) (r2 : Int) (r3 : List S42) (w : World) (hr0_2 : Kd.C k42 w A0_2 l0_2.length l0_2) (hc0_2 : l0_2.length ≤ c0_2) (h : pend_own.f a0_0 a0_1 l0_2 = some (r1, r2, r3)) : Calls Try.prog 26 #[.agg #[.int .i64 a0_0, .int .i64 a0_1, .slice A0_2 l0_2.length c0_2]] w fun e w' => ∃ v2_, e = .returned (.agg #[.int .i64 r1, .int .i64 r2, v2_]) ∧ Kd.R k42 42 w' w.heap.size (fun _ => True) v2_ r3 ∧ Below w.heap.size w w' := by
  unfold pend_own.f at h
  by_cases hl : l0_2.length ≤ 1000
  · rw [if_pos hl] at h
    simp only [Option.some.injEq, Prod.mk.injEq] at h
    obtain ⟨rfl, rfl, rfl⟩ := h
    exact (pend_own26 _ _ A0_2 c0_2 _ w hl hr0_2 hc0_2).mono fun _ _ ⟨g, h1, h2, h3⟩ => ⟨_, h1, h2, h3⟩
  · rw [if_neg hl] at h
    cases h
end Go.Proofs.Ytkkgnmfahhkajaa.Q
