/- Layer 10: copies of rows of numbers (slices.Clone). -/
import Derived.Test.YtcifbemppbegbaaQx0
import Derived.RangeFuncNested
import Derived.RangeFuncLeaves
import Derived.Shelf.Abstract
import Derived.WalkKit
import Derived.LoopNIn
import Derived.LoopIn
import Derived.OwnWalkIn
import Derived.TacticsInMore
import Derived.Lib.SliceRun
import Derived.Lib.Hide
import Derived.Test.YtcifbemppbegbaaWArr
import Derived.Test.YtcifbemppbegbaaWApart
namespace Go.Proofs.Ytcifbemppbegbaa.Q
open Go.RowKit Go.Shelf Go.Proofs.YtcifbemppbegbaaW.PrintWords Go.Proofs.YtcifbemppbegbaaW.PrintLast Go.Proofs.YtcifbemppbegbaaW.PrintMore
attribute [local go_sem] Oper.semAt_some
set_option linter.unusedVariables false
set_option linter.unusedSimpArgs false
theorem infoI3 : (Try.prog.info? 3).map (fun i => (i.zero, i.size, i.bytes)) = some (some (.int .i64 0), 1, 8) := by kernel_rfl
theorem nil48 (w : World) (a : Option Addr) (n c n' c' : Nat) : (binOp .eql 48 (.slice a n c) (.slice none n' c')).run Try.prog w = .ok (.bool a.isNone) w := Lib.run_eql_slice_nil w _ _ a n c n' c' Try.underlying48
set_option maxRecDepth 100000 in
set_option maxHeartbeats 2000000 in
theorem clone_int (A : Option Addr) (c : Nat) (l : List Int) (w : World) (hC : Kd.C (Kd.int .i64) w A l.length l) (hc : l.length ≤ c) (hb : l.length ≤ 1000000) :
    Calls Try.prog 51 #[.slice A l.length c] w fun e w' => ∃ v, e = .returned v ∧ Kd.R (Kd.int .i64) 3 w' w.heap.size (fun _ => True) v l ∧ Below w.heap.size w w' := by
  refine (callsIn_wide (n := 4)).1 ?_
  have q48 := nil48
  obtain ⟨i0, hi, hz0, hz1, hz2⟩ := info_parts infoI3
  cases A with
  | none =>
    have hn : l.length = 0 := by
      by_cases h0 : 0 < l.length
      · obtain ⟨ad, e, _⟩ := Kd.at_int hC 0 (by omega) (by omega)
        cases e
      · omega
    have hl : l = [] := List.length_eq_zero_iff.1 hn
    subst hl
    refine callsIn_of_wp_marks Try.func51 rfl trivial ?_ rfl
    simp only [Try.ntmps51, List.size_toArray, List.length_cons, List.length_nil, Nat.reduceAdd, Nat.reduceSub, Array.replicate_succ, Array.replicate_zero, List.push_toArray, List.append_toArray, List.nil_append, List.cons_append]
    gi_wp2
    exact ⟨_, results_tmp rfl _ _ _, _, rfl, Kd.R_nil _ _ _ _ _, Below.refl _ _⟩
  | some ad =>
    have hcell : ∀ j u, (l.map (Value.int .i64))[j]? = some u → w.cell? (ad.add j) = some u := by
      intro j u hj
      have hjl : j < l.length := by
        have := (List.getElem?_eq_some_iff.1 hj).1
        simpa using this
      obtain ⟨ad2, e, h2⟩ := Kd.at_int hC (j : Int) (by omega) (by omega)
      cases e
      rw [Int.toNat_natCast] at h2
      rw [h2]
      have e1 : rd l (j : Int) = l[j] := by
        unfold rd
        rw [Int.toNat_natCast, List.getD_eq_getElem?_getD, List.getElem?_eq_getElem hjl]
        rfl
      rw [e1]
      rw [List.getElem?_map, List.getElem?_eq_getElem hjl] at hj
      exact hj
    have hch := Lib.hid hcell
    have hbh := Lib.hid hb
    clear hcell hb hC
    refine callsIn_of_wp_marks Try.func51 rfl trivial ?_ rfl
    simp only [Try.ntmps51, List.size_toArray, List.length_cons, List.length_nil, Nat.reduceAdd, Nat.reduceSub, Array.replicate_succ, Array.replicate_zero, List.push_toArray, List.append_toArray, List.nil_append, List.cons_append]
    gi_wp2_with (gi_at_builtin; refine wpListIn_append_own _ rfl _ _ 48 rfl w.heap.size 3 i0 (.int .i64 0) 1 8 Try.underlying48 hi hz0 hz1 hz2 rfl (by decide) _ _ _ rfl (World.ownsRow_made w #[] 0 (Nat.le_refl _) (Nat.zero_le _) rfl) ad l.length c (l.map (Value.int .i64)) rfl (by simp) (fun j u hj => Lib.cell?_alloc_some _ (hch.out j u hj)) (by intro u hu; obtain ⟨x, _, rfl⟩ := List.mem_map.1 hu; rfl) (by have := hbh.out; unfold maxLen; omega) (by have := hbh.out; omega) (by simp) ?_; intro v' w1 hown hgrow hnil)
    refine ⟨_, results_tmp rfl _ _ _, v', rfl, Kd.R_of_own (by simpa [encs] using hown) (fun _ _ => trivial), ((Below.refl _ w).alloc (Nat.le_refl _) _).grown hgrow (by simp) (by intro k hk; change some w.heap.size = some k at hk; cases hk; exact Nat.le_refl _)⟩
end Go.Proofs.Ytcifbemppbegbaa.Q

/- Layer 10: a copy of the lanes' row (slices.Clone): the cells as they are. -/
namespace Go.Proofs.Ytcifbemppbegbaa.Q
open Go.RowKit Go.Shelf Go.Proofs.YtcifbemppbegbaaW.PrintWords Go.Proofs.YtcifbemppbegbaaW.PrintLast Go.Proofs.YtcifbemppbegbaaW.PrintMore
attribute [local go_sem] Oper.semAt_some
set_option linter.unusedVariables false
set_option linter.unusedSimpArgs false
theorem nil22 (w : World) (a : Option Addr) (n c n' c' : Nat) : (binOp .eql 22 (.slice a n c) (.slice none n' c')).run Try.prog w = .ok (.bool a.isNone) w := Lib.run_eql_slice_nil w _ _ a n c n' c' Try.underlying22
set_option maxRecDepth 100000 in
set_option maxHeartbeats 2000000 in
/-- The same, the cells given ahead. -/
theorem clone_cells (A : Option Addr) (c n : Nat) (cs : List Value) (w : World) (hlen : cs.length = n * 6) (hone : ∀ u ∈ cs, u.oneCell' = true) (hcell : ∀ ad, A = some ad → ∀ j u, cs[j]? = some u → w.cell? (ad.add j) = some u) (hnone : A = none → n = 0) (hb : n ≤ 1000000) :
    Calls Try.prog 50 #[.slice A n c] w fun e w' => ∃ v, e = .returned v ∧ w'.ownsRow w.heap.size 61 6 v n cs ∧ Below w.heap.size w w' := by
  refine (callsIn_wide (n := 4)).1 ?_
  have q22 := nil22
  obtain ⟨i0, hi, hz0, hz1, hz2⟩ := info_parts info61
  cases A with
  | none =>
    obtain rfl := hnone rfl
    have hl : cs = [] := List.length_eq_zero_iff.1 (by omega)
    subst hl
    refine callsIn_of_wp_marks Try.func50 rfl trivial ?_ rfl
    simp only [Try.ntmps50, List.size_toArray, List.length_cons, List.length_nil, Nat.reduceAdd, Nat.reduceSub, Array.replicate_succ, Array.replicate_zero, List.push_toArray, List.append_toArray, List.nil_append, List.cons_append]
    gi_wp2
    exact ⟨_, results_tmp rfl _ _ _, _, rfl, World.ownsRow_nil _ _ _ _, Below.refl _ _⟩
  | some ad =>
    have hch := Lib.hid (hcell ad rfl)
    have hbh := Lib.hid hb
    have hoh := Lib.hid hone
    have hlh := Lib.hid hlen
    clear hcell hb hone hlen hnone
    refine callsIn_of_wp_marks Try.func50 rfl trivial ?_ rfl
    simp only [Try.ntmps50, List.size_toArray, List.length_cons, List.length_nil, Nat.reduceAdd, Nat.reduceSub, Array.replicate_succ, Array.replicate_zero, List.push_toArray, List.append_toArray, List.nil_append, List.cons_append]
    gi_wp2_with (gi_at_builtin; refine wpListIn_append_own _ rfl _ _ 22 rfl w.heap.size 61 i0 (.agg #[(.int .i64 0), (.bool false), (.int .i64 0), (.slice none 0 0), (.int .i64 0), (.int .i64 0)]) 6 64 Try.underlying22 hi hz0 hz1 hz2 rfl (by decide) _ _ _ rfl (World.ownsRow_made w #[] 0 (Nat.le_refl _) (Nat.zero_le _) rfl) ad n c cs rfl hlh.out (fun j u hj => Lib.cell?_alloc_some _ (hch.out j u hj)) hoh.out (by have := hbh.out; unfold maxLen; omega) (by have := hbh.out; omega) (by simp) ?_; intro v' w1 hown hgrow hnil)
    refine ⟨_, results_tmp rfl _ _ _, v', rfl, by simpa using hown, ((Below.refl _ w).alloc (Nat.le_refl _) _).grown hgrow (by simp) (by intro k hk; change some w.heap.size = some k at hk; cases hk; exact Nat.le_refl _)⟩
end Go.Proofs.Ytcifbemppbegbaa.Q

/- Layer 10: a copy of the messages' row. -/
namespace Go.Proofs.Ytcifbemppbegbaa.Q
open Go.RowKit Go.Proofs.YtcifbemppbegbaaW.PrintWords Go.Proofs.YtcifbemppbegbaaW.PrintMore
set_option linter.unusedVariables false
set_option linter.unusedSimpArgs false
theorem k40_flat {w w' : World} {base : Nat} {ok' : Nat → Prop} {x : S40} {cs : List Value} (h : k40.K w x cs) : k40.M w' base ok' x cs := by
  rw [k40_open h]; exact k40_mkM _ _ _ x
/-- What make lays: n operations, none begun. -/
def zs40 : Array Value := #[.int .i64 0, .int .i64 0, .int .i64 0, .int .u64 0]
def mk40 (n : Nat) : Array Value := madeCells zs40 (n * 4)
theorem run_mk40 (n : Nat) (hn : n ≤ 1000) (W : World) : (Instr.makeSlice 23 (.int .i64 n) (.int .i64 n)).run Try.prog W = .ok (.slice (some ⟨W.heap.size, 0, none⟩) n n) (W.alloc (.cells (mk40 n) 40)) := by
  obtain ⟨i0, hi, hzz⟩ := Option.map_eq_some_iff.1 info40
  simp only [Prod.mk.injEq] at hzz
  obtain ⟨hz0, hz1, hz2⟩ := hzz
  have h := run_make (P := Try.prog) W 23 40 i0 _ Try.underlying23 hi hz0 .i64 .i64 (n : Int) (n : Int) (by omega) (by omega) (by rw [hz2]; omega) (by omega)
  rw [hz1] at h
  simp only [Int.toNat_natCast] at h
  exact h
theorem mk40_R (n : Nat) (hn : n ≤ 1000) (W : World) (base r : Nat) (hb : base ≤ W.heap.size) (er : W.heap.size = r) : k40.R 40 (W.alloc (.cells (mk40 n) 40)) base (fun _ => True) (.slice (some ⟨r, 0, none⟩) n n) (List.replicate n z40) := by
  subst er
  have hr : Reps (k40.M (W.alloc (.cells (mk40 n) 40)) base (fun k => True ∧ some k ≠ (Value.slice (some ⟨W.heap.size, 0, none⟩) n n).ownBlock)) 4 (List.replicate n z40) (mk40 n).toList := Kd.reps_made (z := .agg zs40) rfl (by decide) (k40_mkM _ _ _ z40) n
  refine ⟨fun _ _ => trivial, (mk40 n).toList, ?_, hr⟩
  have h := World.ownsRow_lit (base := base) (e := 40) (size := 4) W (mk40 n) n hb (by simp only [maxLen]; omega) (by have := hr.1; simpa using this)
  show World.ownsRow _ base 40 4 _ (List.replicate n z40).length _
  rw [List.length_replicate]
  exact h
section
variable {ops : Array Oper} {rest : List Oper} {o : Oper} {a : Act} {Q : Exit → Act → World → Prop}
/-- copy of as many operations as the row has. -/
theorem wpList_copy40 {w0 W : World} (base : Nat) (hgd : o.guard = none) (d s : Operand) (ho : o.op = .call { callee := .builtin .copy, args := #[d, s], argTypes := #[23, 23] })
    (v : Value) (l0 l : List S40) (A : Option Addr) (c : Nat) (hd : a.eval d = v) (hs : a.eval s = .slice A l.length c) (HO : k40.R 40 W base (fun _ => True) v l0) (hl : l0.length = l.length) (hC : k40.C W A l.length l) (HB : Below base w0 W)
    (h : ∀ w1, k40.R 40 w1 base (fun _ => True) v l → Below base w0 w1 → W.grownBy w1 v.ownBlock → wpList Try.prog ops Q rest (a.put o.dst (.int .i64 l.length)) w1) : wpList Try.prog ops Q (o :: rest) a W := by
  obtain ⟨i0, hi, hzz⟩ := Option.map_eq_some_iff.1 info40
  simp only [Prod.mk.injEq] at hzz
  obtain ⟨hz0, hz1, hz2⟩ := hzz
  obtain ⟨hok, inner, ⟨hlen, hv⟩, hrep⟩ := HO
  by_cases h0 : l.length = 0
  · have e0 : l0 = [] := List.eq_nil_of_length_eq_zero (by omega)
    have el : l = [] := List.eq_nil_of_length_eq_zero h0
    subst e0; subst el
    have hv2 : ∃ dp dc, v = .slice dp 0 dc := by
      rcases hv with ⟨rfl, _⟩ | ⟨g, cap, cur, rfl, _⟩
      · exact ⟨_, _, rfl⟩
      · exact ⟨_, _, rfl⟩
    obtain ⟨dp, dc, rfl⟩ := hv2
    have hrun : (Builtin.copy_ #[23, 23] o.type #[.slice dp 0 dc, .slice A 0 c]).run Try.prog W = .ok (goInt 0) W := by
      have hl' : ∀ (x : Addr), (loadCells x 0).run Try.prog W = .ok #[] W := fun x => by simpa using run_loadCells_list (P := Try.prog) W x [] (by simp)
      cases dp <;> cases A <;> simp [Builtin.copy_, run_underlying Try.underlying23, Builtin.lenOf, Builtin.firstCells, sizeOf, typeInfo, hi, storeCells, hl']
    refine wpList_plain hgd fun K hK => ?_
    unfold Oper.wp
    simp [execOp, ho, resolve, invoke, builtin, hd, hs, hrun, Result.andThen]
    exact hK _ _ (h W ⟨hok, inner, ⟨hlen, hv⟩, hrep⟩ HB ⟨rfl, rfl, rfl, Nat.le_refl _, fun _ _ _ => rfl⟩)
  · rcases hv with ⟨rfl, h1⟩ | ⟨g, cap, cur, rfl, hg, hh, hle, hcap, hsz, htake⟩
    · omega
    · have hsz : cur.size = cap * 4 := hsz
      obtain ⟨ad, rfl, _⟩ := hC.2.2 (by omega)
      obtain ⟨cs, hrc, hcell⟩ := ReadsRow.inner_ hC
      have hcl : cs.length = l.length * 4 := hrc.1
      have h1 : ∀ v ∈ cs, v.oneCell' = true := by
        intro v hv
        obtain ⟨j, hj, rfl⟩ := List.getElem_of_mem hv
        have hq : j / 4 < l.length := by omega
        have hk := k40.K_one (hrc.2 (j / 4) _ (List.getElem?_eq_getElem hq))
        refine hk _ ?_
        refine List.mem_iff_getElem?.2 ⟨j % 4, ?_⟩
        show (List.take 4 (List.drop (j / 4 * 4) cs))[j % 4]? = _
        rw [List.getElem?_take, if_pos (Nat.mod_lt _ (by decide)), List.getElem?_drop, show j / 4 * 4 + j % 4 = j by omega, List.getElem?_eq_getElem hj]
      have hl1 := run_loadCells_list (P := Try.prog) W ad cs hcell
      have hst := run_storeCells_at Try.prog g 0 40 cs 0 cur W hh (by rw [hcl, hsz]; have := Nat.mul_le_mul_right 4 hle; omega) h1
      rw [hcl] at hl1
      have hrun : (Builtin.copy_ #[23, 23] o.type #[.slice (some ⟨g, 0, none⟩) l0.length cap, .slice (some ad) l.length c]).run Try.prog W = .ok (goInt l.length) (W.setRow g (cs ++ cur.toList.drop cs.length).toArray) := by
        rw [hl]
        simp only [Nat.zero_add, List.take_zero, List.nil_append] at hst
        simp [Builtin.copy_, run_underlying Try.underlying23, Builtin.lenOf, Builtin.firstCells, sizeOf, typeInfo, hi, hz1, show k40.sz = 4 from rfl, hl1, hst]
      refine wpList_plain hgd fun K hK => ?_
      unfold Oper.wp
      simp [execOp, ho, resolve, invoke, builtin, hd, hs, hrun, Result.andThen]
      have hb2 : Below base w0 (W.setRow g (cs ++ cur.toList.drop cs.length).toArray) := HB.trans ⟨rfl, rfl, rfl, by simp [World.setRow], fun k hk => setRow_other W g k _ (by omega)⟩
      have hh2 := setRow_heap W g cur (cs ++ cur.toList.drop cs.length).toArray 40 _ hh
      refine hK _ _ (h _ ⟨hok, cs, ⟨by rw [hcl]; rfl, .inr ⟨g, cap, _, by rw [hl], hg, hh2, by omega, hcap, ?_, ?_⟩⟩, hrc.imp_ (fun _ _ hp => k40_flat hp)⟩ hb2 ⟨rfl, rfl, rfl, by simp [World.setRow], fun k _ hne => setRow_other W g k _ (fun e => hne (by rw [e]; rfl))⟩)
      · simp only [List.size_toArray, List.length_append, List.length_drop, Array.length_toList]
        have := Nat.mul_le_mul_right 4 hle
        show cs.length + (cur.size - cs.length) = cap * 4
        omega
      · show List.take (l.length * 4) (cs ++ _) = cs
        rw [← hcl, List.take_left']
        rfl
end
end Go.Proofs.Ytcifbemppbegbaa.Q

/- Layer 10: a row of lanes whose claims are rows of their own. -/
namespace Go.Proofs.Ytcifbemppbegbaa.Q
open Go.RowKit Go.Proofs.YtcifbemppbegbaaW.PrintWords Go.Proofs.YtcifbemppbegbaaW.PrintMore
set_option linter.unusedVariables false
set_option linter.unusedSimpArgs false
theorem R_tight {w : World} {base : Nat} {ok ok' : Nat → Prop} {v : Value} {l : List Int} (h : (Kd.int .i64).R 3 w base ok v l) (hk : ∀ k, v.ownBlock = some k → ok' k) : (Kd.int .i64).R 3 w base ok' v l := by
  obtain ⟨_, inner, ho, hr⟩ := h
  exact ⟨hk, inner, ho, hr⟩
theorem S_of {w : World} {base : Nat} {v : Value} {xs : List S61} {cs vs : List Value} (hrow : w.ownsRow base 61 6 v xs.length cs) (hlen : cs.length = xs.length * 6) (hvs : vs.length = xs.length)
    (hcells : ∀ (j : Nat) (x : S61) (u : Value), xs[j]? = some x → vs[j]? = some u → (cs.drop (j * 6)).take 6 = [.int .i64 x.f0, .bool x.f1, .int .i64 x.f2, u, .int .i64 x.f4, .int .i64 x.f5])
    (hR : ∀ (j : Nat) (x : S61) (u : Value), xs[j]? = some x → vs[j]? = some u → (Kd.int .i64).R 3 w base (fun _ => True) u x.f3)
    (hne : ∀ (i j : Nat) (u u' : Value), vs[i]? = some u → vs[j]? = some u' → i ≠ j → u.ownBlock = none ∨ u.ownBlock ≠ u'.ownBlock) (hv : ∀ (j : Nat) (u : Value), vs[j]? = some u → u.ownBlock = none ∨ u.ownBlock ≠ v.ownBlock) :
    Kd.S k61 61 w base (fun _ => True) v xs := by
  refine ⟨fun k => vs.findIdx (fun u => u.ownBlock == some k), fun _ _ => trivial, cs, ?_, ?_, ?_⟩
  · rw [List.length_zipIdx]
    exact hrow
  · rw [List.length_zipIdx]
    exact hlen
  · rintro j ⟨x, i⟩ hj
    rw [List.getElem?_zipIdx, Option.map_eq_some_iff] at hj
    obtain ⟨x', hx, he⟩ := hj
    simp only [Nat.zero_add, Prod.mk.injEq] at he
    obtain ⟨rfl, rfl⟩ := he
    have hjl : j < vs.length := by
      have := (List.getElem?_eq_some_iff.1 hx).1
      omega
    have hu : vs[j]? = some vs[j] := List.getElem?_eq_getElem hjl
    show k61.M w base _ x' ((cs.drop (j * 6)).take 6)
    rw [hcells j x' _ hx hu]
    refine k61_mkM w base _ x' (R_tight (hR j x' _ hx hu) (fun k hk => ⟨⟨trivial, ?_⟩, ?_⟩))
    · intro e
      rcases hv j _ hu with h1 | h1
      · rw [hk] at h1; cases h1
      · rw [hk] at h1; exact h1 e
    · show vs.findIdx (fun u => u.ownBlock == some k) = j
      rw [List.findIdx_eq hjl]
      refine ⟨by rw [hk]; exact beq_self_eq_true _, fun m hm => ?_⟩
      have hml : m < vs.length := by omega
      rcases hne m j _ _ (List.getElem?_eq_getElem hml) hu (by omega) with h1 | h1
      · rw [h1]; rfl
      · rw [hk] at h1
        exact beq_eq_false_iff_ne.2 h1
end Go.Proofs.Ytcifbemppbegbaa.Q
