/- Layer 10: the law QueueClaims, walked. -/
import Derived.Test.YtcifbemppbegbaaA38
import Derived.ChangeArms
import Derived.DataElems
namespace Go.Proofs.Ytcifbemppbegbaa.Q
open Go.RowKit Go.Proofs.YtcifbemppbegbaaW.PrintWords Go.Proofs.YtcifbemppbegbaaW.PrintMore Go.Proofs.YtcifbemppbegbaaW.PrintLast
set_option linter.unusedVariables false
set_option linter.unusedSimpArgs false
theorem QL.open_ {w0 w : World} {v : Value} {l0 : List S61} {l1 : List S40} (h : QL w0 w v l0 l1) : ∃ A n c A1 m c1, v = .agg #[.slice A n c, .slice A1 m c1] ∧ QL w0 w (.agg #[.slice A n c, .slice A1 m c1]) l0 l1 := by
 obtain ⟨A0, c0, A1, c1, rfl, _⟩ := id h
 exact ⟨_, _, _, _, _, _, rfl, h⟩
theorem QV.open_ {w : World} {v : Value} {l0 : List S61} {l1 : List S40} (h : QV w v l0 l1) : ∃ A n c A1 m c1, v = .agg #[.slice A n c, .slice A1 m c1] ∧ QV w (.agg #[.slice A n c, .slice A1 m c1]) l0 l1 := by
 obtain ⟨A0, c0, A1, c1, rfl, _⟩ := id h
 exact ⟨_, _, _, _, _, _, rfl, h⟩
set_option maxRecDepth 100000 in
set_option maxHeartbeats 16000000 in
theorem claims3 {w : World} {v : Value} {l0 : List S61} {l1 : List S40} (lane cl cn ce x : Int) (h : QV w v l0 l1) : Calls Try.prog 3 #[v, .int .i64 lane, .agg #[.int .i64 cl, .int .i64 cn, .int .i64 ce], .int .u64 x] w fun e w' => e = .returned (.bool true) ∧ Below w.heap.size w w' := by
 have hF := light_fit l0 l1
 obtain ⟨r0, r1, ca, cb_, cc, er, hC9, hC10, hT1⟩ := Claim_both hF lane
 obtain ⟨s0, s1, ep, hP11, hP12, hT2⟩ := Publish_both hF cl cn ce x
 obtain ⟨br, hR14, hR15⟩ := Ready_both hF cl cn ce
 obtain ⟨A, n, c, A1, m, c1, rfl, h⟩ := h.open_
 have hmx : Try.prog.follows .mixedOrders = true := by kernel_rfl
 go_enter Try.func3, Try.ntmps3
 go_wp2_with fail
 obtain ⟨q1, q2, qz, hB⟩ := two_blocks w (.cells #[.slice A n c, .slice A1 m c1] 25) (.cells #[.int .i64 cl, .int .i64 cn, .int .i64 ce] 27)
 have hq := h.on hB
 generalize (w.alloc (.cells #[.slice A n c, .slice A1 m c1] 25)).alloc (.cells #[.int .i64 cl, .int .i64 cn, .int .i64 ce] 27) = w1 at q1 q2 qz hB hq ⊢
 refine (light_calls h hB).mono ?_
 rintro e w2 ⟨v, rfl, hV, hb⟩
 obtain ⟨B, n2, d, B1, m2, d1, rfl, hV⟩ := hV.open_
 have q1 := heap_on q1 hb
 have q2 := heap_on q2 hb
 have hB := vbelow_step hB hb
 clear hb qz
 obtain ⟨a0, a1, aF⟩ := blk2 q1
 have aF0 := aF 0
 have aF1 := aF 1
 obtain ⟨g0, g1, g2, _⟩ := blk3 q2
 have ng : w.heap.size + 1 ≠ w.heap.size := by omega
 go_upto_region 2 with fail
 have hq3 : QV ((w2.setCell ⟨w.heap.size, 0, none⟩ (.slice B n2 d)).setCell ⟨w.heap.size, 1, none⟩ (.slice B1 m2 d1)) (.agg #[.slice B n2 d, .slice B1 m2 d1]) (lt0 l0) (lt1 l1) := by
  obtain ⟨X0, x0, X1, x1, e_, hx0, hx1, hX⟩ := hV
  have hS : Below w.heap.size w ((w2.setCell ⟨w.heap.size, 0, none⟩ (.slice B n2 d)).setCell ⟨w.heap.size, 1, none⟩ (.slice B1 m2 d1)) := vbelow_set (vbelow_set hB (Nat.le_refl _)) (Nat.le_refl _)
  have hX2 := hX _ hS ((KQ.set q1 (by decide) 0 (.slice B n2 d)).trans (KQ.set (heap_put' q1) (by decide) 1 (.slice B1 m2 d1))).kl
  exact ⟨X0, x0, X1, x1, e_, hx0, hx1, hX2.1, hX2.2⟩
 have q2 := blk_far (p := ⟨w.heap.size, 1, none⟩) (blk_far (p := ⟨w.heap.size, 0, none⟩) q2 ng (.slice B n2 d)) ng (.slice B1 m2 d1)
 have q1 := put2 q1 (.slice B n2 d) (.slice B1 m2 d1)
 have hB : Below w.heap.size w ((w2.setCell ⟨w.heap.size, 0, none⟩ (.slice B n2 d)).setCell ⟨w.heap.size, 1, none⟩ (.slice B1 m2 d1)) := vbelow_set (vbelow_set hB (Nat.le_refl _)) (Nat.le_refl _)
 clear hV hq a0 a1 aF aF0 aF1 g0 g1 g2 ng
 generalize (w2.setCell ⟨w.heap.size, 0, none⟩ (.slice B n2 d)).setCell ⟨w.heap.size, 1, none⟩ (.slice B1 m2 d1) = w3 at hq3 q1 q2 hB ⊢
 obtain ⟨cq10, cq11, _⟩ := blk2 q1
 obtain ⟨cq20, cq21, cq22, _⟩ := blk3 q2
 go_wp2_with fail
 refine (hC9 _ _ hq3).mono ?_
 rintro e y9 ⟨v, rfl, hO, hb⟩
 obtain ⟨U9, n9_, u9_, V9, m9_, v9_, rfl, hO⟩ := hO.open_
 clear cq10 cq11 cq20 cq21 cq22
 have q1 := heap_on q1 hb
 have q2 := heap_on q2 hb
 have hq3 := hq3.on hb
 have hB := vbelow_step hB hb
 have hv9 := hO.qv
 clear hb hO
 obtain ⟨cq10, cq11, _⟩ := blk2 q1
 obtain ⟨cq20, cq21, cq22, _⟩ := blk3 q2
 go_upto_region 3 with fail
 clear cq10 cq11 cq20 cq21 cq22
 obtain ⟨p9, k9, _, hb⟩ := two_blocks y9 (.cells #[.slice U9 n9_ u9_, .slice V9 m9_ v9_] 25) (.cells #[.int .i64 ca, .int .i64 cb_, .int .i64 cc] 27)
 have q1 := heap_on q1 hb
 have q2 := heap_on q2 hb
 have hq3 := hq3.on hb
 have hv9 := hv9.on hb
 have hB := vbelow_step hB hb
 clear hb
 generalize y9.heap.size = b9 at p9 k9 ⊢
 generalize (y9.alloc (.cells #[.slice U9 n9_ u9_, .slice V9 m9_ v9_] 25)).alloc (.cells #[.int .i64 ca, .int .i64 cb_, .int .i64 cc] 27) = x9 at q1 q2 p9 k9 hq3 hv9 hB ⊢
 obtain ⟨cq10, cq11, _⟩ := blk2 q1
 obtain ⟨cq20, cq21, cq22, _⟩ := blk3 q2
 obtain ⟨cp90, cp91, _⟩ := blk2 p9
 obtain ⟨ck90, ck91, ck92, _⟩ := blk3 k9
 go_wp2_with fail
 refine (hC10 _ _ hq3).mono ?_
 rintro e y10 ⟨v, rfl, hO, hb⟩
 obtain ⟨U10, n10_, u10_, V10, m10_, v10_, rfl, hO⟩ := hO.open_
 clear cq10 cq11 cq20 cq21 cq22 cp90 cp91 ck90 ck91 ck92
 have q1 := heap_on q1 hb
 have q2 := heap_on q2 hb
 have p9 := heap_on p9 hb
 have k9 := heap_on k9 hb
 have hq3 := hq3.on hb
 have hv9 := hv9.on hb
 have hB := vbelow_step hB hb
 have hv10 := hO.qv
 clear hb hO
 obtain ⟨cq10, cq11, _⟩ := blk2 q1
 obtain ⟨cq20, cq21, cq22, _⟩ := blk3 q2
 obtain ⟨cp90, cp91, _⟩ := blk2 p9
 obtain ⟨ck90, ck91, ck92, _⟩ := blk3 k9
 go_upto_region 4 with fail
 clear cq10 cq11 cq20 cq21 cq22 cp90 cp91 ck90 ck91 ck92
 obtain ⟨p10, k10, _, hb⟩ := two_blocks y10 (.cells #[.slice U10 n10_ u10_, .slice V10 m10_ v10_] 25) (.cells #[.int .i64 ca, .int .i64 cb_, .int .i64 cc] 27)
 have q1 := heap_on q1 hb
 have q2 := heap_on q2 hb
 have p9 := heap_on p9 hb
 have k9 := heap_on k9 hb
 have hq3 := hq3.on hb
 have hv9 := hv9.on hb
 have hv10 := hv10.on hb
 have hB := vbelow_step hB hb
 clear hb
 generalize y10.heap.size = b10 at p10 k10 ⊢
 generalize (y10.alloc (.cells #[.slice U10 n10_ u10_, .slice V10 m10_ v10_] 25)).alloc (.cells #[.int .i64 ca, .int .i64 cb_, .int .i64 cc] 27) = x10 at q1 q2 p9 k9 p10 k10 hq3 hv9 hv10 hB ⊢
 obtain ⟨cq10, cq11, _⟩ := blk2 q1
 obtain ⟨cq20, cq21, cq22, _⟩ := blk3 q2
 obtain ⟨cp90, cp91, _⟩ := blk2 p9
 obtain ⟨ck90, ck91, ck92, _⟩ := blk3 k9
 obtain ⟨cp100, cp101, _⟩ := blk2 p10
 obtain ⟨ck100, ck101, ck102, _⟩ := blk3 k10
 go_wp2_with fail
 refine (hP11 _ _ hq3).mono ?_
 rintro e y11 ⟨v, rfl, hO, hb⟩
 obtain ⟨U11, n11_, u11_, V11, m11_, v11_, rfl, hO⟩ := hO.open_
 clear cq10 cq11 cq20 cq21 cq22 cp90 cp91 ck90 ck91 ck92 cp100 cp101 ck100 ck101 ck102
 have q1 := heap_on q1 hb
 have q2 := heap_on q2 hb
 have p9 := heap_on p9 hb
 have k9 := heap_on k9 hb
 have p10 := heap_on p10 hb
 have k10 := heap_on k10 hb
 have hq3 := hq3.on hb
 have hv9 := hv9.on hb
 have hv10 := hv10.on hb
 have hB := vbelow_step hB hb
 have hv11 := hO.qv
 clear hb hO
 obtain ⟨cq10, cq11, _⟩ := blk2 q1
 obtain ⟨cq20, cq21, cq22, _⟩ := blk3 q2
 obtain ⟨cp90, cp91, _⟩ := blk2 p9
 obtain ⟨ck90, ck91, ck92, _⟩ := blk3 k9
 obtain ⟨cp100, cp101, _⟩ := blk2 p10
 obtain ⟨ck100, ck101, ck102, _⟩ := blk3 k10
 go_upto_region 5 with fail
 clear cq10 cq11 cq20 cq21 cq22 cp90 cp91 ck90 ck91 ck92 cp100 cp101 ck100 ck101 ck102
 have hb := vbelow_alloc (Below.refl _ y11) (.cells #[.slice U11 n11_ u11_, .slice V11 m11_ v11_] 25)
 have p11 := heap_alloc_new y11 (.cells #[.slice U11 n11_ u11_, .slice V11 m11_ v11_] 25)
 have q1 := heap_on q1 hb
 have q2 := heap_on q2 hb
 have p9 := heap_on p9 hb
 have k9 := heap_on k9 hb
 have p10 := heap_on p10 hb
 have k10 := heap_on k10 hb
 have hq3 := hq3.on hb
 have hv9 := hv9.on hb
 have hv10 := hv10.on hb
 have hv11 := hv11.on hb
 have hB := vbelow_step hB hb
 clear hb
 generalize y11.heap.size = b11 at p11 ⊢
 generalize y11.alloc (.cells #[.slice U11 n11_ u11_, .slice V11 m11_ v11_] 25) = x11 at q1 q2 p9 k9 p10 k10 p11 hq3 hv9 hv10 hv11 hB ⊢
 obtain ⟨cq10, cq11, _⟩ := blk2 q1
 obtain ⟨cq20, cq21, cq22, _⟩ := blk3 q2
 obtain ⟨cp90, cp91, _⟩ := blk2 p9
 obtain ⟨ck90, ck91, ck92, _⟩ := blk3 k9
 obtain ⟨cp100, cp101, _⟩ := blk2 p10
 obtain ⟨ck100, ck101, ck102, _⟩ := blk3 k10
 obtain ⟨cp110, cp111, _⟩ := blk2 p11
 go_wp2_with fail
 refine (hP12 _ _ hq3).mono ?_
 rintro e y12 ⟨v, rfl, hO, hb⟩
 obtain ⟨U12, n12_, u12_, V12, m12_, v12_, rfl, hO⟩ := hO.open_
 clear cq10 cq11 cq20 cq21 cq22 cp90 cp91 ck90 ck91 ck92 cp100 cp101 ck100 ck101 ck102 cp110 cp111
 have q1 := heap_on q1 hb
 have q2 := heap_on q2 hb
 have p9 := heap_on p9 hb
 have k9 := heap_on k9 hb
 have p10 := heap_on p10 hb
 have k10 := heap_on k10 hb
 have p11 := heap_on p11 hb
 have hq3 := hq3.on hb
 have hv9 := hv9.on hb
 have hv10 := hv10.on hb
 have hv11 := hv11.on hb
 have hB := vbelow_step hB hb
 have hv12 := hO.qv
 clear hb hO
 obtain ⟨cq10, cq11, _⟩ := blk2 q1
 obtain ⟨cq20, cq21, cq22, _⟩ := blk3 q2
 obtain ⟨cp90, cp91, _⟩ := blk2 p9
 obtain ⟨ck90, ck91, ck92, _⟩ := blk3 k9
 obtain ⟨cp100, cp101, _⟩ := blk2 p10
 obtain ⟨ck100, ck101, ck102, _⟩ := blk3 k10
 obtain ⟨cp110, cp111, _⟩ := blk2 p11
 go_upto_region 6 with fail
 clear cq10 cq11 cq20 cq21 cq22 cp90 cp91 ck90 ck91 ck92 cp100 cp101 ck100 ck101 ck102 cp110 cp111
 have hb := vbelow_alloc (Below.refl _ y12) (.cells #[.slice U12 n12_ u12_, .slice V12 m12_ v12_] 25)
 have p12 := heap_alloc_new y12 (.cells #[.slice U12 n12_ u12_, .slice V12 m12_ v12_] 25)
 have q1 := heap_on q1 hb
 have q2 := heap_on q2 hb
 have p9 := heap_on p9 hb
 have k9 := heap_on k9 hb
 have p10 := heap_on p10 hb
 have k10 := heap_on k10 hb
 have p11 := heap_on p11 hb
 have hq3 := hq3.on hb
 have hv9 := hv9.on hb
 have hv10 := hv10.on hb
 have hv11 := hv11.on hb
 have hv12 := hv12.on hb
 have hB := vbelow_step hB hb
 clear hb
 generalize y12.heap.size = b12 at p12 ⊢
 generalize y12.alloc (.cells #[.slice U12 n12_ u12_, .slice V12 m12_ v12_] 25) = x12 at q1 q2 p9 k9 p10 k10 p11 p12 hq3 hv9 hv10 hv11 hv12 hB ⊢
 obtain ⟨cq10, cq11, _⟩ := blk2 q1
 obtain ⟨cq20, cq21, cq22, _⟩ := blk3 q2
 obtain ⟨cp90, cp91, _⟩ := blk2 p9
 obtain ⟨ck90, ck91, ck92, _⟩ := blk3 k9
 obtain ⟨cp100, cp101, _⟩ := blk2 p10
 obtain ⟨ck100, ck101, ck102, _⟩ := blk3 k10
 obtain ⟨cp110, cp111, _⟩ := blk2 p11
 obtain ⟨cp120, cp121, _⟩ := blk2 p12
 have jq10 := gw_cell cq10
 have jq11 := gw_cell cq11
 have jq20 := gw_cell cq20
 have jq21 := gw_cell cq21
 have jq22 := gw_cell cq22
 have jp90 := gw_cell cp90
 have jp91 := gw_cell cp91
 have jk90 := gw_cell ck90
 have jk91 := gw_cell ck91
 have jk92 := gw_cell ck92
 have jp100 := gw_cell cp100
 have jp101 := gw_cell cp101
 have jk100 := gw_cell ck100
 have jk101 := gw_cell ck101
 have jk102 := gw_cell ck102
 have jp110 := gw_cell cp110
 have jp111 := gw_cell cp111
 have jp120 := gw_cell cp120
 have jp121 := gw_cell cp121
 clear cq10 cq11 cq20 cq21 cq22 cp90 cp91 ck90 ck91 ck92 cp100 cp101 ck100 ck101 ck102 cp110 cp111 cp120 cp121
 clear q1 q2 p9 k9 p10 k10 p11 p12
 refine wp_region_quietB (by kernel_rfl) (by kernel_rfl) ?_
 repeat (first | go_big_quiet_step ((first | (go_at_call 13; (with_reducible refine quietB_of (Same_QV (hv9.on (GW.property _)) (hv10.on (GW.property _)) hT1))) | (go_at_call 13; (with_reducible refine quietB_of (Same_QV (hv11.on (GW.property _)) (hv12.on (GW.property _)) hT2))) | (go_at_call 14; exact quietB_of (hR14 _ _ (hq3.on (GW.property _)))) | (go_at_call 15; exact quietB_of (hR15 _ _ (hq3.on (GW.property _)))) | (go_at_call 16; exact quietB_of (awake_true _)))) | quiet_step ((first | (go_at_call 13; (with_reducible refine quietB_of (Same_QV (hv9.on (GW.property _)) (hv10.on (GW.property _)) hT1))) | (go_at_call 13; (with_reducible refine quietB_of (Same_QV (hv11.on (GW.property _)) (hv12.on (GW.property _)) hT2))) | (go_at_call 14; exact quietB_of (hR14 _ _ (hq3.on (GW.property _)))) | (go_at_call 15; exact quietB_of (hR15 _ _ (hq3.on (GW.property _)))) | (go_at_call 16; exact quietB_of (awake_true _)))))
 refine wpQuiet_nil ?_
 rintro w9 ⟨⟨wq_, hb9⟩, hwq_⟩
 obtain rfl : w9 = wq_ := hwq_
 go_wp2
 go_ret
 exact ⟨rfl, vbelow_step hB hb9⟩
end Go.Proofs.Ytcifbemppbegbaa.Q

/- Layer 10, the rows: arguments as they come in. -/
namespace Go.Proofs.Ytcifbemppbegbaa.Q
open Go.RowKit Go.Proofs.YtcifbemppbegbaaW.PrintWords Go.Proofs.YtcifbemppbegbaaW.PrintMore
set_option linter.unusedVariables false
set_option linter.unusedSimpArgs false
theorem mapM_get {α β : Type} {f : α → Option β} : ∀ (l : List α) (r : List β), l.mapM f = some r → r.length = l.length ∧ ∀ (i : Nat) (a : α) (b : β), l[i]? = some a → r[i]? = some b → f a = some b
 | [], r, h => by
  simp at h
  subst h
  exact ⟨rfl, fun i a b h1 => by simp at h1⟩
 | a :: l, r, h => by
  rw [List.mapM_cons] at h
  simp only [Option.bind_eq_bind, Option.bind_eq_some_iff] at h
  obtain ⟨b, hb, rs, hrs, e⟩ := h
  have e' : b :: rs = r := by simpa using e
  subst e'
  obtain ⟨h1, h2⟩ := mapM_get l rs hrs
  refine ⟨by simp [h1], fun i a' b' ha' hb' => ?_⟩
  cases i with
  | zero => simp at ha' hb'; subst ha' hb'; exact hb
  | succ i => exact h2 i a' b' (by simpa using ha') (by simpa using hb')
theorem cells_at {w : World} {base : Nat} {a : Addr} {n : Nat} {c : List Value} (h : w.cells? base a n = some c) : c.length = n ∧ ∀ i u, c[i]? = some u → w.cell? (a.add i) = some u := by
 unfold World.cells? at h
 split at h
 ·obtain ⟨h1, h2⟩ := mapM_get _ _ h
  rw [List.length_range] at h1
  refine ⟨h1, fun i u hu => h2 i i u ?_ hu⟩
  have hi : i < n := by have := (List.getElem?_eq_some_iff.1 hu).1; omega
  rw [List.getElem?_range hi]
 ·cases h
theorem pick {α : Type} (p : Nat → α → Prop) : ∀ n, (∀ i, i < n → ∃ a, p i a) → ∃ xs : List α, xs.length = n ∧ ∀ i a, xs[i]? = some a → p i a
 | 0, _ => ⟨[], rfl, fun i a h => by simp at h⟩
 | n + 1, h => by
  obtain ⟨xs, h1, h2⟩ := pick p n (fun i hi => h i (by omega))
  obtain ⟨a, ha⟩ := h n (by omega)
  refine ⟨xs ++ [a], by simp [h1], fun i b hb => ?_⟩
  by_cases hi : i < xs.length
  ·rw [List.getElem?_append_left hi] at hb
   exact h2 i b hb
  ·rw [List.getElem?_append_right (by omega)] at hb
   have hi0 : i - xs.length = 0 := by
    by_cases h0 : i - xs.length = 0
    ·exact h0
    ·rw [List.getElem?_eq_none (by simp; omega)] at hb; cases hb
   rw [hi0] at hb
   simp at hb
   subst hb
   have : i = n := by omega
   subst this
   exact ha
section
variable {H : Type} (enc : TypeId × Value → H) (W : World)
/-- What is read of a type is of a kind. -/
def Opens {α : Type} (t : TypeId) (d : Kd α) : Prop := ∀ (fuel : Nat) (cs : List Value) (x : DataW H × List MemPlace), DataW.trod enc Try.prog W 0 (fun _ => true) true fuel t cs = some x → ∃ a, d.K W a cs
theorem opens_int {t : TypeId} {k : IntKind} (ht : Try.prog.underlying t = some (.int k)) : Opens enc W t (Kd.int k) := fun fuel cs x h => by
 obtain ⟨n, rfl, _, _⟩ := DataW.trod_int ht h
 exact ⟨n, rfl⟩
theorem opens_slice {α : Type} {t e : TypeId} {d : Kd α} (ht : Try.prog.underlying t = some (.slice e)) (hsz : Try.prog.cellsOf e = d.sz) (hd : Opens enc W e d) : Opens enc W t (Kd.slice e d) := fun fuel cs x h => by
 rcases DataW.trod_slice ht h with ⟨rfl, _⟩ | ⟨a, len, cap, elems, rest, n, _, rfl, _, _, hl, hm, hlen, hel, _⟩
 ·exact ⟨[], none, 0, rfl, Nat.le_refl _, rfl, by simp, fun h => absurd h (by simp)⟩
 ·obtain ⟨xs, h1, h2⟩ := pick (fun i a' => ∃ c, W.cells? 0 (a.add (i * d.sz)) d.sz = some c ∧ d.K W a' c) len (fun i hi => by
   have h3 := hel i hi
   rw [List.getElem?_eq_getElem (show i < elems.length by omega), hsz, Option.bind_eq_some_iff] at h3
   obtain ⟨c, hc, hx⟩ := h3
   obtain ⟨a', ha'⟩ := hd n c _ hx
   exact ⟨a', c, hc, ha'⟩)
  have hmax : maxLen ≤ 9223372036854775807 := by decide
  refine ⟨xs, some a, cap, by rw [h1], by omega, rfl, by omega, fun _ => ⟨a, rfl, fun j p hj => ?_⟩⟩
  obtain ⟨c, hc, hK⟩ := h2 j p hj
  obtain ⟨hcl, hcell⟩ := cells_at hc
  refine ⟨c, hcl, hK, fun i u hu => ?_⟩
  have := hcell i u hu
  rwa [Addr.add_add] at this
theorem opens40 : Opens enc W 40 k40 := fun fuel cs x h => by
 obtain ⟨xs, n, _, _, hl, hxs, hf⟩ := DataW.trod_struct Try.underlying40 h
 rw [show Try.prog.cellsOf 40 = 4 by kernel_rfl] at hl
 obtain ⟨c0, c1, c2, c3, rfl⟩ : ∃ c0 c1 c2 c3, cs = [c0, c1, c2, c3] := by
  match cs, hl with
  | [c0, c1, c2, c3], _ => exact ⟨c0, c1, c2, c3, rfl⟩
 obtain ⟨y0, y1, y2, y3, rfl⟩ : ∃ y0 y1 y2 y3, xs = [y0, y1, y2, y3] := by
  match xs, hxs with
  | [y0, y1, y2, y3], _ => exact ⟨y0, y1, y2, y3, rfl⟩
 have z0 : Try.prog.cellsOf 3 = 1 := by kernel_rfl
 have g0 : DataW.trod enc Try.prog W 0 (fun _ => true) true n 3 [c0] = some y0 := by
  have h_ := hf 0 { name := "Lane", type := 3, offset := 0, embedded := false, tag := "", pkgPath := "", byteOffset := 0 } rfl
  simp only [z0] at h_
  exact h_
 have z1 : Try.prog.cellsOf 3 = 1 := by kernel_rfl
 have g1 : DataW.trod enc Try.prog W 0 (fun _ => true) true n 3 [c1] = some y1 := by
  have h_ := hf 1 { name := "Epoch", type := 3, offset := 1, embedded := false, tag := "", pkgPath := "", byteOffset := 8 } rfl
  simp only [z1] at h_
  exact h_
 have z2 : Try.prog.cellsOf 3 = 1 := by kernel_rfl
 have g2 : DataW.trod enc Try.prog W 0 (fun _ => true) true n 3 [c2] = some y2 := by
  have h_ := hf 2 { name := "N", type := 3, offset := 2, embedded := false, tag := "", pkgPath := "", byteOffset := 16 } rfl
  simp only [z2] at h_
  exact h_
 have z3 : Try.prog.cellsOf 28 = 1 := by kernel_rfl
 have g3 : DataW.trod enc Try.prog W 0 (fun _ => true) true n 28 [c3] = some y3 := by
  have h_ := hf 3 { name := "Payload", type := 28, offset := 3, embedded := false, tag := "", pkgPath := "", byteOffset := 24 } rfl
  simp only [z3] at h_
  exact h_
 obtain ⟨n0, e0, _, _⟩ := DataW.trod_int Try.underlying3 g0
 obtain rfl : c0 = _ := by simpa using e0
 obtain ⟨n1, e1, _, _⟩ := DataW.trod_int Try.underlying3 g1
 obtain rfl : c1 = _ := by simpa using e1
 obtain ⟨n2, e2, _, _⟩ := DataW.trod_int Try.underlying3 g2
 obtain rfl : c2 = _ := by simpa using e2
 obtain ⟨n3, e3, _, _⟩ := DataW.trod_int Try.underlying28 g3
 obtain rfl : c3 = _ := by simpa using e3
 exact ⟨⟨n0, n1, n2, n3⟩, k40_mk W ⟨n0, n1, n2, n3⟩⟩
theorem opens48 : Opens enc W 48 (Kd.slice 3 (Kd.int .i64)) := opens_slice enc W Try.underlying48 (by kernel_rfl) (opens_int enc W Try.underlying3)
theorem opens61 : Opens enc W 61 k61 := fun fuel cs x h => by
 obtain ⟨xs, n, _, _, hl, hxs, hf⟩ := DataW.trod_struct Try.underlying61 h
 rw [show Try.prog.cellsOf 61 = 6 by kernel_rfl] at hl
 obtain ⟨c0, c1, c2, c3, c4, c5, rfl⟩ : ∃ c0 c1 c2 c3 c4 c5, cs = [c0, c1, c2, c3, c4, c5] := by
  match cs, hl with
  | [c0, c1, c2, c3, c4, c5], _ => exact ⟨c0, c1, c2, c3, c4, c5, rfl⟩
 obtain ⟨y0, y1, y2, y3, y4, y5, rfl⟩ : ∃ y0 y1 y2 y3 y4 y5, xs = [y0, y1, y2, y3, y4, y5] := by
  match xs, hxs with
  | [y0, y1, y2, y3, y4, y5], _ => exact ⟨y0, y1, y2, y3, y4, y5, rfl⟩
 have z0 : Try.prog.cellsOf 3 = 1 := by kernel_rfl
 have g0 : DataW.trod enc Try.prog W 0 (fun _ => true) true n 3 [c0] = some y0 := by
  have h_ := hf 0 { name := "Credit", type := 3, offset := 0, embedded := false, tag := "", pkgPath := "", byteOffset := 0 } rfl
  simp only [z0] at h_
  exact h_
 have z1 : Try.prog.cellsOf 4 = 1 := by kernel_rfl
 have g1 : DataW.trod enc Try.prog W 0 (fun _ => true) true n 4 [c1] = some y1 := by
  have h_ := hf 1 { name := "TwoWay", type := 4, offset := 1, embedded := false, tag := "", pkgPath := "", byteOffset := 8 } rfl
  simp only [z1] at h_
  exact h_
 have z2 : Try.prog.cellsOf 3 = 1 := by kernel_rfl
 have g2 : DataW.trod enc Try.prog W 0 (fun _ => true) true n 3 [c2] = some y2 := by
  have h_ := hf 2 { name := "Left", type := 3, offset := 2, embedded := false, tag := "", pkgPath := "", byteOffset := 16 } rfl
  simp only [z2] at h_
  exact h_
 have z3 : Try.prog.cellsOf 48 = 1 := by kernel_rfl
 have g3 : DataW.trod enc Try.prog W 0 (fun _ => true) true n 48 [c3] = some y3 := by
  have h_ := hf 3 { name := "Claims", type := 48, offset := 3, embedded := false, tag := "", pkgPath := "", byteOffset := 24 } rfl
  simp only [z3] at h_
  exact h_
 have z4 : Try.prog.cellsOf 3 = 1 := by kernel_rfl
 have g4 : DataW.trod enc Try.prog W 0 (fun _ => true) true n 3 [c4] = some y4 := by
  have h_ := hf 4 { name := "Next", type := 3, offset := 4, embedded := false, tag := "", pkgPath := "", byteOffset := 48 } rfl
  simp only [z4] at h_
  exact h_
 have z5 : Try.prog.cellsOf 3 = 1 := by kernel_rfl
 have g5 : DataW.trod enc Try.prog W 0 (fun _ => true) true n 3 [c5] = some y5 := by
  have h_ := hf 5 { name := "Epoch", type := 3, offset := 5, embedded := false, tag := "", pkgPath := "", byteOffset := 56 } rfl
  simp only [z5] at h_
  exact h_
 obtain ⟨n0, e0, _, _⟩ := DataW.trod_int Try.underlying3 g0
 obtain rfl : c0 = _ := by simpa using e0
 obtain ⟨n2, e2, _, _⟩ := DataW.trod_int Try.underlying3 g2
 obtain rfl : c2 = _ := by simpa using e2
 obtain ⟨n4, e4, _, _⟩ := DataW.trod_int Try.underlying3 g4
 obtain rfl : c4 = _ := by simpa using e4
 obtain ⟨n5, e5, _, _⟩ := DataW.trod_int Try.underlying3 g5
 obtain rfl : c5 = _ := by simpa using e5
 obtain ⟨n1, e1, _⟩ := DataW.trod_bool Try.underlying4 g1
 obtain rfl : c1 = _ := by simpa using e1
 obtain ⟨l, A, c, e3, hc, hC⟩ := opens48 enc W _ _ _ g3
 obtain rfl : c3 = _ := by simpa using e3
 exact ⟨⟨n0, n1, n2, l, n4, n5⟩, k61_mk W ⟨n0, n1, n2, l, n4, n5⟩ hc hC⟩
theorem opens22 : Opens enc W 22 (Kd.slice 61 k61) := opens_slice enc W Try.underlying22 (by kernel_rfl) (opens61 enc W)
theorem opens23 : Opens enc W 23 (Kd.slice 40 k40) := opens_slice enc W Try.underlying23 (by kernel_rfl) (opens40 enc W)
theorem opens25 : ∀ (fuel : Nat) (cs : List Value) (x : DataW H × List MemPlace), DataW.trod enc Try.prog W 0 (fun _ => true) true fuel 25 cs = some x → ∃ (A0 A1 : Option Addr) (d0 d1 : Nat) (l0 : List S61) (l1 : List S40), cs = [.slice A0 l0.length d0, .slice A1 l1.length d1] ∧ l0.length ≤ d0 ∧ l1.length ≤ d1 ∧ Kd.C k61 W A0 l0.length l0 ∧ Kd.C k40 W A1 l1.length l1 := fun fuel cs x h => by
 obtain ⟨xs, n, _, _, hl, hxs, hf⟩ := DataW.trod_struct Try.underlying25 h
 rw [show Try.prog.cellsOf 25 = 2 by kernel_rfl] at hl
 obtain ⟨c0, c1, rfl⟩ : ∃ c0 c1, cs = [c0, c1] := by
  match cs, hl with
  | [c0, c1], _ => exact ⟨c0, c1, rfl⟩
 obtain ⟨y0, y1, rfl⟩ : ∃ y0 y1, xs = [y0, y1] := by
  match xs, hxs with
  | [y0, y1], _ => exact ⟨y0, y1, rfl⟩
 have z0 : Try.prog.cellsOf 22 = 1 := by kernel_rfl
 have g0 : DataW.trod enc Try.prog W 0 (fun _ => true) true n 22 [c0] = some y0 := by
  have h_ := hf 0 { name := "Lanes", type := 22, offset := 0, embedded := false, tag := "", pkgPath := "", byteOffset := 0 } rfl
  simp only [z0] at h_
  exact h_
 have z1 : Try.prog.cellsOf 23 = 1 := by kernel_rfl
 have g1 : DataW.trod enc Try.prog W 0 (fun _ => true) true n 23 [c1] = some y1 := by
  have h_ := hf 1 { name := "Q", type := 23, offset := 1, embedded := false, tag := "", pkgPath := "", byteOffset := 24 } rfl
  simp only [z1] at h_
  exact h_
 obtain ⟨l0, A0, d0, e0, h0, C0⟩ := opens22 enc W _ _ _ g0
 obtain ⟨l1, A1, d1, e1, h1, C1⟩ := opens23 enc W _ _ _ g1
 obtain rfl : c0 = _ := by simpa using e0
 obtain rfl : c1 = _ := by simpa using e1
 exact ⟨A0, A1, d0, d1, l0, l1, rfl, h0, h1, C0, C1⟩
theorem opens27 : ∀ (fuel : Nat) (cs : List Value) (x : DataW H × List MemPlace), DataW.trod enc Try.prog W 0 (fun _ => true) true fuel 27 cs = some x → ∃ a b c : Int, cs = [.int .i64 a, .int .i64 b, .int .i64 c] := fun fuel cs x h => by
 obtain ⟨xs, n, _, _, hl, hxs, hf⟩ := DataW.trod_struct Try.underlying27 h
 rw [show Try.prog.cellsOf 27 = 3 by kernel_rfl] at hl
 obtain ⟨c0, c1, c2, rfl⟩ : ∃ c0 c1 c2, cs = [c0, c1, c2] := by
  match cs, hl with
  | [c0, c1, c2], _ => exact ⟨c0, c1, c2, rfl⟩
 obtain ⟨y0, y1, y2, rfl⟩ : ∃ y0 y1 y2, xs = [y0, y1, y2] := by
  match xs, hxs with
  | [y0, y1, y2], _ => exact ⟨y0, y1, y2, rfl⟩
 have z0 : Try.prog.cellsOf 3 = 1 := by kernel_rfl
 have g0 : DataW.trod enc Try.prog W 0 (fun _ => true) true n 3 [c0] = some y0 := by
  have h_ := hf 0 { name := "Lane", type := 3, offset := 0, embedded := false, tag := "", pkgPath := "", byteOffset := 0 } rfl
  simp only [z0] at h_
  exact h_
 have z1 : Try.prog.cellsOf 3 = 1 := by kernel_rfl
 have g1 : DataW.trod enc Try.prog W 0 (fun _ => true) true n 3 [c1] = some y1 := by
  have h_ := hf 1 { name := "N", type := 3, offset := 1, embedded := false, tag := "", pkgPath := "", byteOffset := 8 } rfl
  simp only [z1] at h_
  exact h_
 have z2 : Try.prog.cellsOf 3 = 1 := by kernel_rfl
 have g2 : DataW.trod enc Try.prog W 0 (fun _ => true) true n 3 [c2] = some y2 := by
  have h_ := hf 2 { name := "Epoch", type := 3, offset := 2, embedded := false, tag := "", pkgPath := "", byteOffset := 16 } rfl
  simp only [z2] at h_
  exact h_
 obtain ⟨n0, e0, _, _⟩ := DataW.trod_int Try.underlying3 g0
 obtain rfl : c0 = _ := by simpa using e0
 obtain ⟨n1, e1, _, _⟩ := DataW.trod_int Try.underlying3 g1
 obtain rfl : c1 = _ := by simpa using e1
 obtain ⟨n2, e2, _, _⟩ := DataW.trod_int Try.underlying3 g2
 obtain rfl : c2 = _ := by simpa using e2
 exact ⟨n0, n1, n2, rfl⟩
end
section
variable {H : Type} {enc : TypeId × Value → H} {W : World} {v : Value} {d : DataW H} {p : List MemPlace} {r0 : Reach} {base : Nat}
theorem open25 (hv : Value.okWide Try.prog W r0 base 25 v) (h : DataW.Trod enc Try.prog W 0 (fun _ => true) true 25 v d p) : ∃ (l0 : List S61) (l1 : List S40), QV W v l0 l1 := by
 obtain ⟨cs, rfl, _⟩ := WideShapes.okWide_struct Try.underlying25 hv
 obtain ⟨m, hm⟩ := h
 obtain ⟨A0, A1, d0, d1, l0, l1, e, h0, h1, C0, C1⟩ := opens25 enc W _ _ _ hm
 exact ⟨l0, l1, A0, d0, A1, d1, congrArg Value.agg (Array.toList_inj.1 e), h0, h1, C0, C1⟩
theorem open27 (hv : Value.okWide Try.prog W r0 base 27 v) (h : DataW.Trod enc Try.prog W 0 (fun _ => true) true 27 v d p) : ∃ a b c : Int, v = .agg #[.int .i64 a, .int .i64 b, .int .i64 c] := by
 obtain ⟨cs, rfl, _⟩ := WideShapes.okWide_struct Try.underlying27 hv
 obtain ⟨m, hm⟩ := h
 obtain ⟨a, b, c, e⟩ := opens27 enc W _ _ _ hm
 exact ⟨a, b, c, congrArg Value.agg (Array.toList_inj.1 e)⟩
end
end Go.Proofs.Ytcifbemppbegbaa.Q
