/- Layer 2: whether flows are a lattice: the function whole. -/
import Derived.Test.YtlbjcmiegbejdaaL6
namespace Go.Proofs.Ytlbjcmiegbejdaa.Q
open Go.RowKit Go.Shelf Bm
attribute [local go_sem] Oper.semAt_some
set_option linter.unusedVariables false
set_option linter.unusedSimpArgs false
open Go.Proofs.YtlbjcmiegbejdaaW.PrintWords Go.Proofs.YtlbjcmiegbejdaaW.PrintMore Go.Proofs.YtlbjcmiegbejdaaW.PrintLast
theorem stop_own {β ι : Type} (b2 b3 b4 : Nat) (G : β → ι → ι → Prop) (f : ι → Int) (ok : Bool) : Own (fun s W => ∃ x y, G s x y ∧ Stop b2 b3 b4 (f x) (f y) ok W) := by
  rintro s X Y row ⟨x, y, hG, h1, h2, h3⟩ hg hr
  exact ⟨x, y, hG, (grownBy_keeps_cells hg hr h1 rfl).trans h1, (grownBy_keeps_cells hg hr h2 rfl).trans h2, (grownBy_keeps_cells hg hr h3 rfl).trans h3⟩
theorem Stop.putObj {b2 b3 b4 D : Nat} {x y : Int} {ok : Bool} {W : World} {o o' : Obj} (h : Stop b2 b3 b4 x y ok W) (hD : W.heap[D]? = some o) (ho : o.isCells = false) : Stop b2 b3 b4 x y ok (W.putObj D o') := by
  have hg := grownBy_putObj' W D o'
  have hr : ∀ r, some D = some r → ∃ o : Obj, W.heap[r]? = some o ∧ o.isCells = false := fun r e => by cases e; exact ⟨o, hD, ho⟩
  exact ⟨(grownBy_keeps_cells hg hr h.flow rfl).trans h.flow, (grownBy_keeps_cells hg hr h.flag rfl).trans h.flag, (grownBy_keeps_cells hg hr h.err rfl).trans h.err⟩
/-- x is the first label that has a bad partner, y its first one. -/
def FirstAt (l : List Int) (pre : List (Fin l.length)) (x y : Fin l.length) : Prop :=
  ∃ p0, pre = p0 ++ [x] ∧ (∀ x' : Fin l.length, x' ∈ p0 → ∀ y' : Fin l.length, badB l x' y' = false) ∧ ∃ q, q ++ [y] <+: labs l.length l.length ∧ (∀ y' : Fin l.length, y' ∈ q → badB l x y' = false) ∧ badB l x y = true
theorem all_labs {m : Nat} (x : Fin m) : x ∈ labs m m := by
  unfold labs
  rw [List.take_of_length_le (by simp)]
  exact List.mem_finRange x
theorem cell_of_heap {W : World} {b j : Nat} {cs : Array Value} {t : TypeId} {v : Value} (h : W.heap[b]? = some (.cells cs t (0, 0))) (hv : cs[j]? = some v) : W.cell? ⟨b, j, none⟩ = some v := by
  unfold World.cell?
  simp only [h]
  simp [hv]
set_option maxRecDepth 100000 in
set_option maxHeartbeats 4000000 in
theorem lattice_ok (A : Option Addr) (c : Nat) (l : List Int) (w : World) (hC : Kd.C (Kd.int .u64) w A l.length l) (hc : l.length ≤ c) (hok : okUb l = true) (h16 : l.length ≤ 16) (hck : lattice_Check.f l = some 0) (hs : lattice_shape.f l = some 0) :
    Calls Try.prog 24 #[.slice A l.length c] w fun e w' => ((e = .returned (.tuple #[.agg #[.int .i64 0, .int .i64 0], .bool true, .int .i64 0]) ∧ ∀ x y : Fin l.length, badB l x y = false) ∨ ∃ (pre : List (Fin l.length)) (x y : Fin l.length), pre <+: labs l.length l.length ∧ FirstAt l pre x y ∧ e = .returned (.tuple #[.agg #[.int .i64 (x.val : Nat), .int .i64 (y.val : Nat)], .bool false, .int .i64 0])) ∧ Below w.heap.size w w' := by
  refine (callsIn_wide (n := 9)).1 ?_
  have f16 : Fence.wide.fn 16 := trivial
  have f45 : Fence.wide.fn 45 := trivial
  have z2 : Stop w.heap.size (w.heap.size + 1) (w.heap.size + 1 + 1) 0 0 false (((w.alloc (.cells #[.int .i64 0, .int .i64 0] 32)).alloc (.cells #[.bool false] 4)).alloc (.cells #[.int .i64 0] 26)) := by
    refine ⟨heap_alloc' (heap_alloc' (World.alloc_heap_new w _)), ?_, ?_⟩
    · have h_ := World.alloc_heap_new (w.alloc (.cells #[.int .i64 0, .int .i64 0] 32)) (.cells #[.bool false] 4)
      rw [World.size_alloc] at h_
      exact heap_alloc' h_
    · have h_ := World.alloc_heap_new ((w.alloc (.cells #[.int .i64 0, .int .i64 0] 32)).alloc (.cells #[.bool false] 4)) (.cells #[.int .i64 0] 26)
      simp only [World.size_alloc] at h_
      exact h_
  have hBa : Below w.heap.size w (((w.alloc (.cells #[.int .i64 0, .int .i64 0] 32)).alloc (.cells #[.bool false] 4)).alloc (.cells #[.int .i64 0] 26)) := vbelow_alloc (vbelow_alloc (vbelow_alloc (Below.refl _ _) _) _) _
  have hCa := Kd.C_below hC hBa
  have hza : w.heap.size + 3 ≤ (((w.alloc (.cells #[.int .i64 0, .int .i64 0] 32)).alloc (.cells #[.bool false] 4)).alloc (.cells #[.int .i64 0] 26)).heap.size := by simp
  refine callsIn_of_wp_marks Try.func24 rfl trivial ?_ rfl
  simp only [Try.ntmps24, List.size_toArray, List.length_cons, List.length_nil, Nat.reduceAdd, Nat.reduceSub, Array.replicate_succ, Array.replicate_zero, List.push_toArray, List.append_toArray, List.nil_append, List.cons_append]
  gi_wp2_with (gi_at_call 16; refine ((callsIn_wide (n := 8)).2 (lattice_Check.calls A c l 0 _ hCa hc hck)).mono ?_; rintro e w1 ⟨rfl, hb1⟩; have z1 := z2.below hb1; have hC1 := Kd.C_below hCa hb1; have hB1 := vbelow_step hBa hb1; have hz1 := hb1.size)
  have bP0 := Boxed.new w1 61 (.slice A l.length c)
  have hC2 := Kd.C_alloc hC1 (.cells #[.slice A l.length c] 61)
  refine wpIn_mono (wpIn_wide.2 (lat_r5 A c l _ _ _ _ _ _ (by rfl) bP0 hC2 hc hs)) ?_
  intro e a W5 h_
  obtain ⟨rfl, A1, c1, g, p7, rfl, HT, hg, b7, hb5⟩ := NoPanic.imp _ _ _ h_
  clear h_
  have bP := boxed_below bP0 hb5
  have cP := bP.cell
  have z5 := (z1.below (vbelow_alloc (Below.refl _ w1) _)).below hb5
  have hC5 := Kd.C_below hC2 hb5
  have hB5 := vbelow_step (vbelow_alloc hB1 (.cells #[.slice A l.length c] 61)) hb5
  have hT5 := (Kd.R_reads' HT).2.2
  have hc1 := (Kd.R_reads' HT).2.1
  rw [turnL_len] at hT5
  have hz5 := hb5.size
  rw [World.size_alloc] at hz5
  clear HT z1 z2 hBa hCa hC hC1 hC2 bP0 hb1 hb5 hB1
  gi_wp2_with (gi_at_call 45; refine (labels_in Fence.wide 8 trivial rfl _ _ _ _).mono ?_; rintro e w' ⟨rfl, rfl⟩)
  have bS := Boxed.new W5 61 (.slice A l.length c)
  have bP6 := bP.alloc (.cells #[.slice A l.length c] 61)
  have b76 := b7.alloc (.cells #[.slice A l.length c] 61)
  have hg6 := heap_alloc' (o' := .cells #[.slice A l.length c] 61) hg
  have hC6 := Kd.C_alloc hC5 (.cells #[.slice A l.length c] 61)
  have hT6 := Kd.C_alloc hT5 (.cells #[.slice A l.length c] 61)
  have z6 := z5.below (vbelow_alloc (Below.refl _ W5) (.cells #[.slice A l.length c] 61))
  have hB6 := vbelow_alloc hB5 (.cells #[.slice A l.length c] 61)
  have hsz : (W5.alloc (.cells #[.slice A l.length c] 61)).heap.size = W5.heap.size + 1 := World.size_alloc _ _
  generalize hW0 : W5.alloc (.cells #[.slice A l.length c] 61) = W0 at bS bP6 b76 hg6 hC6 hT6 z6 hB6 hsz ⊢
  clear bP cP b7 hg hC5 hT5 z5 hB5
  refine wpIn_rangeFunc_ownH rfl (by omega) (gf := 70) (lb := #[.pointer (some ⟨W5.heap.size, 0, none⟩)]) rfl trivial (enters_of Try.func70 (by kernel_rfl) rfl)
    (labels_stops Fence.wide 8 trivial rfl (by omega) W5.heap.size l.length c A (by omega) W0 (by omega) bS.cell) KC_t (KC_b (by omega)) (Below.refl _ _) (fun _ => rfl)
    (fun pre W => (∀ x : Fin l.length, x ∈ pre → ∀ y : Fin l.length, badB l x y = false) ∧ Below W0.heap.size W0 W)
    (fun c_ pre W => (∃ x y : Fin l.length, (c_ = .ret ∧ FirstAt l pre x y) ∧ Stop w.heap.size (w.heap.size + 1) (w.heap.size + 1 + 1) (x.val : Nat) (y.val : Nat) false W) ∧ Below w.heap.size W0 W)
    (OwnFrom.and (ownFrom_pure _ _) (ownFrom_below (Nat.le_refl _) (Nat.le_refl _)))
    (fun c_ => OwnFrom.and (Own.from (stop_own _ _ _ (fun pre x y => c_ = .ret ∧ FirstAt l pre x y) (fun x : Fin l.length => ((x.val : Nat) : Int)) false) _) (ownFrom_below (by omega) (by omega)))
    ⟨by simp, Below.refl _ _⟩
    (fun x a' W => ∃ Bx, W0.heap.size ≤ Bx ∧ Boxed W Bx 3 (.int .i64 ((x : Fin l.length).val : Nat)) ∧ a' = { tmps := #[.slice A l.length c, undef, .pointer (some ⟨w.heap.size, 0, none⟩), .pointer (some ⟨w.heap.size + 1, 0, none⟩), .pointer (some ⟨w.heap.size + 1 + 1, 0, none⟩), .int .i64 0, .pointer (some ⟨w1.heap.size, 0, none⟩), .pointer (some ⟨p7, 0, none⟩), .pointer (some ⟨Bx, 0, none⟩), undef, undef, undef, .slice A l.length c, .int .i64 0, .int .i64 0, .bool false, undef, undef, .slice A l.length c, .slice A l.length c, .func (.func 52) #[.slice A l.length c] #[], .slice A l.length c, .slice A1 l.length c1, .func (.func 52) #[.slice A1 l.length c1] #[], .slice (some ⟨g, 0, none⟩) 2 2, .slice A l.length c, .func (.func 70) #[] #[.pointer (some ⟨W5.heap.size, 0, none⟩)], .int .i64 ((x : Fin l.length).val : Nat), undef, undef, undef, undef, undef, undef, undef, undef, undef, undef, undef, undef, undef, undef, undef, undef, undef, undef, undef], defers := [] })
    (fun x a' _ X Y row hs hg hr => by obtain ⟨Bx, e1, e2, e3⟩ := hs; exact ⟨Bx, e1, boxed_own Bx 3 (fun (_ : Unit) => Value.int .i64 (x.val : Nat)) () X Y row e2 hg (fun r e => (hr r e).2), e3⟩)
    ?assign ?body ?done ?stop
  case assign =>
    rintro l_ pre x W K ⟨hp, hB⟩ hK
    have hS := boxed_below bS hB
    gi_wp2
    exact hK _ _ ((KeepsOthers.alloc _ _).from _) (KC_of hS (hS.alloc _)) ⟨hp, hB.alloc hB.size _⟩ ⟨W.heap.size, hB.size, Boxed.new W 3 _, rfl⟩
  case body =>
    rintro l_ pre x a' W hl ⟨r, hr⟩ ⟨hp, hB⟩ ⟨Bx, hBx, bX, rfl⟩ hlt
    have hS := boxed_below bS hB
    have bPw := boxed_below bP6 hB
    have cP := bPw.cell
    have hsW := hB.size
    gi_wp2_with (gi_at_call 45; refine (CallsIn.inRound l_ (labels_in Fence.wide 6 trivial rfl _ _ _ _)).mono ?_; rintro e w' ⟨rfl, rfl⟩)
    have bN := Boxed.new W 61 (.slice A l.length c)
    have hr' : (W.alloc (.cells #[.slice A l.length c] 61)).heap[l_]? = some (.loop r) := heap_alloc' hr
    refine wpIn_rangeFunc_ownN (l₀ := l_) (r₀ := r) rfl hr' (by omega) (gf := 70) (lb := #[.pointer (some ⟨W.heap.size, 0, none⟩)]) rfl trivial (enters_of Try.func70 (by kernel_rfl) rfl)
      ((labels_stops Fence.wide 6 trivial rfl (by omega) W.heap.size l.length c A (by omega) _ (by simp) bN.cell).inRound l_) KC_t (KC_b (by simp)) (Below.refl _ _) (fun _ => rfl)
      (fun pre' W' => ((∀ y ∈ pre', badB l x.val (y : Fin l.length).val = false) ∧ Boxed W' Bx 3 (.int .i64 (x.val : Nat)) ∧ Boxed W' W.heap.size 61 (.slice A l.length c)) ∧ (Below W0.heap.size W W' ∧ KeepsFrom W0.heap.size W W'))
      (fun c_ pre' W' => (∃ x2 y : Fin l.length, (c_ = .ret ∧ x2 = x ∧ ∃ q, pre' = q ++ [y] ∧ (∀ y' ∈ q, badB l x.val (y' : Fin l.length).val = false) ∧ badB l x.val y.val = true) ∧ Stop w.heap.size (w.heap.size + 1) (w.heap.size + 1 + 1) (x2.val : Nat) (y.val : Nat) false W') ∧ (Below w.heap.size W W' ∧ KeepsFrom W0.heap.size W W'))
      (OwnFrom.and (OwnFrom.and (ownFrom_pure _ _) (OwnFrom.and (Own.from (boxed_own _ _ _) _) (Own.from (boxed_own _ _ _) _))) (OwnFrom.and (ownFrom_below hsW (by simp; omega)) (ownFrom_keepsFrom (by simp))))
      (fun c_ => OwnFrom.and (Own.from (stop_own _ _ _ (fun (pre' : List (Fin l.length)) x2 y => c_ = .ret ∧ x2 = x ∧ ∃ q, pre' = q ++ [y] ∧ (∀ y' ∈ q, badB l x.val (y' : Fin l.length).val = false) ∧ badB l x.val y.val = true) (fun x : Fin l.length => ((x.val : Nat) : Int)) false) _) (OwnFrom.and (ownFrom_below (by omega) (by simp; omega)) (ownFrom_keepsFrom (by simp))))
      ⟨⟨by simp, bX.alloc _, bN⟩, (Below.refl _ W).alloc hsW _, (KeepsOthers.alloc _ _).from _⟩
      (fun y a'' _ => a'' = { tmps := #[.slice A l.length c, undef, .pointer (some ⟨w.heap.size, 0, none⟩), .pointer (some ⟨w.heap.size + 1, 0, none⟩), .pointer (some ⟨w.heap.size + 1 + 1, 0, none⟩), .int .i64 0, .pointer (some ⟨w1.heap.size, 0, none⟩), .pointer (some ⟨p7, 0, none⟩), .pointer (some ⟨Bx, 0, none⟩), .int .i64 ((y : Fin l.length).val : Nat), undef, undef, .slice A l.length c, .int .i64 0, .int .i64 0, .bool false, undef, undef, .slice A l.length c, .slice A l.length c, .func (.func 52) #[.slice A l.length c] #[], .slice A l.length c, .slice A1 l.length c1, .func (.func 52) #[.slice A1 l.length c1] #[], .slice (some ⟨g, 0, none⟩) 2 2, .slice A l.length c, .func (.func 70) #[] #[.pointer (some ⟨W5.heap.size, 0, none⟩)], .int .i64 ((x : Fin l.length).val : Nat), .slice A l.length c, .func (.func 70) #[] #[.pointer (some ⟨W.heap.size, 0, none⟩)], .int .i64 ((y : Fin l.length).val : Nat), undef, undef, undef, undef, undef, undef, undef, undef, undef, undef, undef, undef, undef, undef, undef, undef], defers := [] })
      (fun _ _ _ _ _ _ hs _ _ => hs)
      ?assign2 ?body2 ?done2 ?stop2
    case assign2 =>
      rintro l2 pre' y W' K hi hK
      gi_wp2
      exact hK _ _ (KeepsFrom.refl _ _) rfl hi rfl
    case body2 =>
      rintro l2 pre' y a'' W' _ _ ⟨⟨hq, bX2, bN2⟩, hBW, hKF⟩ rfl _
      have hB2 := hB.trans hBW
      refine wpIn_mono (lat_round l2 A A1 c c1 l x.val y.val w.heap.size w.heap.size (w.heap.size + 1) (w.heap.size + 1 + 1) w1.heap.size p7 g W5.heap.size W.heap.size Bx W' _ (by rfl) (z6.below hB2) (by omega) (by omega) (by omega) (by omega) (by omega) (by omega) bX2 (boxed_below b76 hB2) (heap_below hg6 hB2) (Kd.C_below hC6 hB2) hc (Kd.C_below hT6 hB2) hc1 hok h16 x.2 y.2 (by have := hB2.size; omega)) ?_
      rintro e a w' (⟨rfl, hgood, hBn⟩ | ⟨rfl, hbad, hKO, hB0, hSt⟩)
      · exact ⟨(keeps_below hBn).from _, KC_of bN2 (boxed_below bN2 hBn), ⟨fun z hz => (List.mem_append.1 hz).elim (hq z) (fun e => by simp at e; subst e; exact hgood), boxed_below bX2 hBn, boxed_below bN2 hBn⟩, hBW.trans (hBn.mono hB2.size), hKF.trans ((keeps_below hBn).from _)⟩
      · exact ⟨hKO.from _, ⟨x, y, ⟨rfl, rfl, pre', rfl, hq, hbad⟩, hSt⟩, (hBW.mono (by omega)).trans hB0, hKF.trans (hKO.from _)⟩
    case done2 =>
      rintro ys' W' rfl ⟨⟨hq, bX2, bN2⟩, hBW, hKF⟩
      gi_wp2
      exact ⟨hKF, KC_of hS (boxed_below bS (hB.trans hBW)), fun z hz => (List.mem_append.1 hz).elim (hp z) (fun e y => by simp at e; subst e; exact hq y (all_labs y)), hB.trans hBW⟩
    case stop2 =>
      rintro c_ pre' W' hpre ⟨⟨x2, y, ⟨rfl, rfl, q, rfl, hq, hbad⟩, hSt⟩, hBW, hKF⟩
      gi_wp2
      exact ⟨hKF, ⟨x2, y, ⟨rfl, pre, rfl, hp, q, hpre, hq, hbad⟩, hSt⟩, (hB.mono (by omega)).trans hBW⟩
  case done =>
    rintro D zs W hD rfl ⟨hp, hB⟩ hK
    have hZ2 := z6.below hB
    have k20 : W.cell? ⟨w.heap.size, 0, none⟩ = some (.int .i64 0) := by simp [World.cell?, hZ2.flow]
    have k21 : W.cell? ⟨w.heap.size, 1, none⟩ = some (.int .i64 0) := by simp [World.cell?, hZ2.flow]
    have k30 : W.cell? ⟨w.heap.size + 1, 0, none⟩ = some (.bool false) := by simp [World.cell?, hZ2.flag]
    have k40 : W.cell? ⟨w.heap.size + 1 + 1, 0, none⟩ = some (.int .i64 0) := by simp [World.cell?, hZ2.err]
    have f20 : W.frozen? ⟨w.heap.size, 0, none⟩ = false := by simp [World.frozen?, hZ2.flow]
    have f21 : W.frozen? ⟨w.heap.size, 1, none⟩ = false := by simp [World.frozen?, hZ2.flow]
    have f30 : W.frozen? ⟨w.heap.size + 1, 0, none⟩ = false := by simp [World.frozen?, hZ2.flag]
    have f40 : W.frozen? ⟨w.heap.size + 1 + 1, 0, none⟩ = false := by simp [World.frozen?, hZ2.err]
    have hPut := Stop.put (x := 0) (y := 0) (ok := true) (n0 := w.heap.size) (w0 := W) hZ2 (by omega) (by omega) (by omega) (Nat.le_refl _) (by omega) (by omega) (KeepsOthers.refl W) (Below.refl _ _)
    have hSz := hB.size
    have hn1 : w.heap.size + 1 ≠ w.heap.size := by omega
    have hn2 : w.heap.size + 1 + 1 ≠ w.heap.size := by omega
    have hn3 : w.heap.size + 1 + 1 ≠ w.heap.size + 1 := by omega
    gi_wp2
    have hK' := hPut.1.same D _ hK rfl
    have hSt := hPut.2.2.putObj (o' := .deferred none) hK' rfl
    refine ⟨by simp, .inl ⟨_, _, rfl, run_takeDeferred hK', ?_⟩⟩
    have r20 := cell_of_heap (j := 0) hSt.flow rfl
    have r21 := cell_of_heap (j := 1) hSt.flow rfl
    have r30 := cell_of_heap (j := 0) hSt.flag rfl
    have r40 := cell_of_heap (j := 0) hSt.err rfl
    refine ⟨.tuple #[.agg #[.int .i64 0, .int .i64 0], .bool true, .int .i64 0], ?_, .inl ⟨rfl, fun x y => hp x (all_labs x) y⟩, (hB6.trans ((hB.mono (by omega)).trans hPut.2.1)).trans (belowK_b (w := w) (Nat.le_refl _) _ D _ _ (by omega) hK' rfl rfl)⟩
    simp [results, Try.f24, go_sem, r20, r21, r30, r40]
  case stop =>
    rintro D c_ pre W hD hpre ⟨⟨x, y, ⟨rfl, hF⟩, hSt0⟩, hB⟩ hK
    gi_wp2
    have hSt := hSt0.putObj (o' := .deferred none) hK rfl
    refine ⟨by simp, .inl ⟨_, _, rfl, run_takeDeferred hK, ?_⟩⟩
    have r20 := cell_of_heap (j := 0) hSt.flow rfl
    have r21 := cell_of_heap (j := 1) hSt.flow rfl
    have r30 := cell_of_heap (j := 0) hSt.flag rfl
    have r40 := cell_of_heap (j := 0) hSt.err rfl
    refine ⟨.tuple #[.agg #[.int .i64 (x.val : Nat), .int .i64 (y.val : Nat)], .bool false, .int .i64 0], ?_, .inr ⟨pre, x, y, hpre, hF, rfl⟩, (hB6.trans hB).trans (belowK_b (w := w) (Nat.le_refl _) W D _ _ (by omega) hK rfl rfl)⟩
    simp [results, Try.f24, go_sem, r20, r21, r30, r40]
end Go.Proofs.Ytlbjcmiegbejdaa.Q
