/- Layer 10: the two claims that a law publishes, takes, retires and asks for. -/
import Derived.Test.YtcifbemppbegbaaA27
namespace Go.Proofs.Ytcifbemppbegbaa.Q
open Go.RowKit Go.Proofs.YtcifbemppbegbaaW.PrintWords Go.Proofs.YtcifbemppbegbaaW.PrintMore Go.Proofs.YtcifbemppbegbaaW.PrintLast
set_option linter.unusedVariables false
set_option linter.unusedSimpArgs false
def aw0 : List S61 := [⟨1, true, 1, [], 0, 0⟩, ⟨2, false, 2, [], 0, 0⟩]
def aw1 : List S61 := [⟨1, true, 1, [], 0, 0⟩, ⟨2, false, 1, [0], 1, 0⟩]
def aw2 : List S61 := [⟨1, true, 1, [], 0, 0⟩, ⟨2, false, 0, [0, 1], 2, 0⟩]
def aw3 : List S61 := [⟨1, true, 1, [], 0, 0⟩, ⟨2, false, 0, [1], 2, 0⟩]
def am3 : List S40 := [⟨1, 0, 0, 7⟩]
theorem aw_new : queue_New.f 60 [1, 2] [true, false] = some (aw0, [], 0) := by kernel_rfl
theorem aw_c0 : queue_Check.f 60 aw0 [] = some 0 := by decide +kernel
theorem aw_c1 : queue_Check.f 60 aw1 [] = some 0 := by decide +kernel
theorem aw_c2 : queue_Check.f 60 aw2 [] = some 0 := by decide +kernel
theorem aw_c3 : queue_Check.f 60 aw3 am3 = some 0 := by decide +kernel
theorem aw_c4 : queue_Check.f 60 aw3 [] = some 0 := by decide +kernel
theorem aw_p1 : queue_plain_place.f 60 aw2 [] 1 1 0 = some 1 := by decide +kernel
theorem aw_p2 : queue_plain_place.f 60 aw2 [] 1 0 0 = some 0 := by decide +kernel
theorem aw_r : queue_Ready.f 60 aw3 am3 1 1 0 = some true := by decide +kernel
theorem aw_m : queue_plain_messages.f 60 aw3 [] 1 = some 0 := by decide +kernel
theorem S_KQ {w : World} {B : Nat} {v : Value} {xs : List S61} (h : Kd.S k61 61 w B (fun _ => True) v xs) : ∃ A c, v = .slice A xs.length c ∧ xs.length ≤ c ∧ ∀ W', KQ w W' → Kd.C k61 W' A xs.length xs := by
  have hR := Kd.S_R h
  obtain ⟨A, c, rfl, hc, _⟩ := Kd.R_reads hR
  refine ⟨A, c, rfl, hc, fun W' hk => ?_⟩
  exact (Kd.R_reads' (Kd.R_move (Kd.R_bound hR) (fun k hk' => by
    obtain ⟨_, _, _, q, hq, cells, hc⟩ := hk'
    exact hk k cells q ((by decide : ∀ q, q ∈ (61 : Nat) :: k61.E → q = 61 ∨ q = 3 ∨ q = 40) q hq) hc))).2.2
theorem R40_QO {w : World} {B : Nat} {v : Value} {l : List S40} (h : k40.R 40 w B (fun _ => True) v l) : ∃ A c, v = .slice A l.length c ∧ l.length ≤ c ∧ ∀ W', KQ w W' → Kd.C k40 W' A l.length l := by
  obtain ⟨A, c, rfl, hc, _⟩ := Kd.R_reads h
  exact ⟨A, c, rfl, hc, fun W' hk => (Kd.R_reads' (R40_KQ h hk)).2.2⟩
theorem C_two {α : Type} {d : Kd α} {W : World} {b : Nat} {x y : α} {u v : Value} {t : TypeId} (hs : d.sz = 1) (hx : d.K W x [u]) (hy : d.K W y [v]) (h : W.heap[b]? = some (.cells #[u, v] t (0, 0))) : Kd.C d W (some ⟨b, 0, none⟩) [x, y].length [x, y] := by
  refine ⟨rfl, by simp, fun _ => ⟨_, rfl, fun j p hj => ?_⟩⟩
  have at_ : ∀ o, W.cell? ⟨b, o, none⟩ = (#[u, v] : Array Value)[o]? := fun o => cell_in h
  match j, hj with
  | 0, hj =>
    obtain rfl := Option.some.inj hj
    refine ⟨[u], hs.symm, hx, fun i w hi => ?_⟩
    match i, hi with
    | 0, hi => rw [hs]; exact (at_ 0).trans hi
  | 1, hj =>
    obtain rfl := Option.some.inj hj
    refine ⟨[v], hs.symm, hy, fun i w hi => ?_⟩
    match i, hi with
    | 0, hi => rw [hs]; exact (at_ 1).trans hi
theorem QO.open_ {w : World} {v : Value} {l0 : List S61} {l1 : List S40} (h : QO w v l0 l1) : ∃ A n c A1 m c1, v = .agg #[.slice A n c, .slice A1 m c1] ∧ QO w (.agg #[.slice A n c, .slice A1 m c1]) l0 l1 := by
  obtain ⟨A0, c0, A1, c1, rfl, _⟩ := id h
  exact ⟨_, _, _, _, _, _, rfl, h⟩
theorem set2_new (W : World) (p q : Addr) (u v : Value) (o : Obj) : (((W.setCell p u).setCell q v).alloc o).heap[W.heap.size]? = some o := by
  have h := heap_alloc_new ((W.setCell p u).setCell q v) o
  have e : ((W.setCell p u).setCell q v).heap.size = W.heap.size := by simp [World.setCell]
  rwa [e] at h
theorem aw_sm0 : Small aw0 [] := ⟨by decide, by decide, by decide⟩
theorem aw_sm1 : Small aw1 [] := ⟨by decide, by decide, by decide⟩
theorem aw_sm2 : Small aw2 [] := ⟨by decide, by decide, by decide⟩
theorem aw_sm4 : Small aw3 [] := ⟨by decide, by decide, by decide⟩
theorem Ready_QV (k : Nat) (a b c : Int) (r : Bool) {v : Value} {l0 : List S61} {l1 : List S40} {w : World} (h : QV w v l0 l1) (hk : queue_Ready.f k l0 l1 a b c = some r) : Calls Try.prog 14 #[v, .agg #[.int .i64 a, .int .i64 b, .int .i64 c]] w fun e w' => e = .returned (.bool r) ∧ Below w.heap.size w w' := by
  obtain ⟨A0, c0, A1, c1, rfl, h0, h1, hC0, hC1⟩ := h
  exact queue_Ready.calls k A0 c0 l0 A1 c1 l1 a b c r w hC0 h0 hC1 h1 hk
theorem Check_QV (k : Nat) {r : Int} {v : Value} {l0 : List S61} {l1 : List S40} {w : World} (h : QV w v l0 l1) (hk : queue_Check.f k l0 l1 = some r) : Calls Try.prog 26 #[v] w fun e w' => e = .returned (.int .i64 r) ∧ Below w.heap.size w w' := by
  obtain ⟨A0, c0, A1, c1, rfl, h0, h1, hC0, hC1⟩ := h
  exact queue_Check.calls k A0 c0 l0 A1 c1 l1 r w hC0 h0 hC1 h1 hk
set_option maxRecDepth 100000 in
set_option maxHeartbeats 8000000 in
theorem awake_true (w : World) : Calls Try.prog 16 #[] w fun e w' => e = .returned (.bool true) ∧ Below w.heap.size w w' := by
  have hmx : Try.prog.follows .mixedOrders = true := by kernel_rfl
  go_enter Try.func16, Try.ntmps16
  go_wp2_with fail
  obtain ⟨n1, n2, nz, hB0⟩ := two_blocks w (.cells #[.int .i64 1, .int .i64 2] 3) (.cells #[.bool true, .bool false] 4)
  generalize (w.alloc (.cells #[.int .i64 1, .int .i64 2] 3)).alloc (.cells #[.bool true, .bool false] 4) = w0 at n1 n2 nz hB0 ⊢
  refine (queue_New.calls 60 _ 2 [1, 2] _ 2 [true, false] aw0 [] 0 w0 (C_two rfl rfl rfl n1) (Nat.le_refl _) (C_two rfl rfl rfl n2) (Nat.le_refl _) aw_new).mono ?_
  rintro e w1 ⟨v0, v1, rfl, hS, hM, hb1⟩
  obtain ⟨A0, c0, rfl, h0, hQ0⟩ := S_KQ hS
  obtain ⟨A1, c1, rfl, h1, hQ1⟩ := R40_QO hM
  have hB1 := vbelow_step hB0 hb1
  have hQ : QO w1 (.agg #[.slice A0 aw0.length c0, .slice A1 ([] : List S40).length c1]) aw0 [] := ⟨A0, c0, A1, c1, rfl, h0, h1, fun W' hk => ⟨hQ0 W' hk, hQ1 W' hk⟩⟩
  clear n1 n2 nz hB0 hS hM hb1 hQ0 hQ1 h0 h1
  generalize aw0.length = n0 at hQ ⊢
  generalize ([] : List S40).length = m0 at hQ ⊢
  go_upto_region 2 with fail
  have Hq := heap_alloc_new w1 (.cells #[.slice A0 n0 c0, .slice A1 m0 c1] 25)
  have hQ := hQ.move (KQ.on (vbelow_alloc (Below.refl _ _) (.cells #[.slice A0 n0 c0, .slice A1 m0 c1] 25)))
  have hB := vbelow_alloc hB1 (.cells #[.slice A0 n0 c0, .slice A1 m0 c1] 25)
  have hbq := hB1.size
  clear hB1
  generalize w1.heap.size = bq at Hq hbq ⊢
  generalize w1.alloc (.cells #[.slice A0 n0 c0, .slice A1 m0 c1] 25) = x1 at Hq hQ hB ⊢
  obtain ⟨hq0, hq1, hqF⟩ := blk2 Hq
  have hqF0 := hqF 0
  have hqF1 := hqF 1
  go_wp2_with fail
  refine (Claim_done 1 60 hQ.qv aw_c0 aw_sm0 (y := ⟨2, false, 2, [], 0, 0⟩) rfl (by decide) (by decide) (by decide) (by decide)).mono ?_
  rintro e y1 ⟨v, rfl, hQn, hbn⟩
  obtain ⟨A1q, n1q, c1q, B1q, m1q, d1q, rfl, hQn⟩ := hQn.open_
  have hB := vbelow_step hB hbn
  clear hq0 hq1 hqF hqF0 hqF1
  have Hq := heap_on Hq hbn
  clear hbn
  obtain ⟨hq0, hq1, hqF⟩ := blk2 Hq
  have hqF0 := hqF 0
  have hqF1 := hqF 1
  have lbq := blk_lt Hq
  go_upto_region 3 with fail
  clear hq0 hq1 hqF hqF0 hqF1 lbq
  have hQ := (hQn.move (KQ.set Hq (by decide) 0 (.slice A1q n1q c1q))).move (KQ.set (heap_put' Hq) (by decide) 1 (.slice B1q m1q d1q))
  clear hQn
  have hB := vbelow_set (p := ⟨bq, 1, none⟩) (v := .slice B1q m1q d1q) (vbelow_set (p := ⟨bq, 0, none⟩) (v := .slice A1q n1q c1q) hB hbq) hbq
  have Hq := put2 Hq (.slice A1q n1q c1q) (.slice B1q m1q d1q)
  have Ha := set2_new y1 ⟨bq, 0, none⟩ ⟨bq, 1, none⟩ (.slice A1q n1q c1q) (.slice B1q m1q d1q) (.cells #[.int .i64 1, .int .i64 0, .int .i64 0] 27)
  have hb2 := vbelow_alloc (Below.refl _ ((y1.setCell ⟨bq, 0, none⟩ (.slice A1q n1q c1q)).setCell ⟨bq, 1, none⟩ (.slice B1q m1q d1q))) (.cells #[.int .i64 1, .int .i64 0, .int .i64 0] 27)
  have Hq := heap_on Hq hb2
  have hQ := hQ.move (KQ.on hb2)
  have hB := vbelow_alloc hB (.cells #[.int .i64 1, .int .i64 0, .int .i64 0] 27)
  clear hb2
  generalize y1.heap.size = ba at Ha ⊢
  generalize ((y1.setCell ⟨bq, 0, none⟩ (.slice A1q n1q c1q)).setCell ⟨bq, 1, none⟩ (.slice B1q m1q d1q)).alloc (.cells #[.int .i64 1, .int .i64 0, .int .i64 0] 27) = x2 at Hq Ha hQ hB ⊢
  obtain ⟨hq0, hq1, hqF⟩ := blk2 Hq
  obtain ⟨ha0, ha1, ha2, haF⟩ := blk3 Ha
  have hqF0 := hqF 0
  have hqF1 := hqF 1
  go_wp2_with fail
  refine (Claim_done 1 60 (show QO _ _ aw1 [] from hQ).qv aw_c1 aw_sm1 (y := ⟨2, false, 1, [0], 1, 0⟩) rfl (by decide) (by decide) (by decide) (by decide)).mono ?_
  rintro e y2 ⟨v, rfl, hQn, hbn⟩
  obtain ⟨A2q, n2q, c2q, B2q, m2q, d2q, rfl, hQn⟩ := hQn.open_
  have hB := vbelow_step hB hbn
  clear hq0 hq1 ha0 ha1 ha2 hqF hqF0 hqF1
  have Hq := heap_on Hq hbn
  have Ha := heap_on Ha hbn
  clear hbn
  obtain ⟨hq0, hq1, hqF⟩ := blk2 Hq
  obtain ⟨ha0, ha1, ha2, haF⟩ := blk3 Ha
  have hqF0 := hqF 0
  have hqF1 := hqF 1
  have lbq := blk_lt Hq
  have lba := blk_lt Ha
  go_upto_region 4 with fail
  clear hq0 hq1 ha0 ha1 ha2 hqF hqF0 hqF1 lbq lba
  have hQ := (hQn.move (KQ.set Hq (by decide) 0 (.slice A2q n2q c2q))).move (KQ.set (heap_put' Hq) (by decide) 1 (.slice B2q m2q d2q))
  clear hQn
  have Ha := blk_far (p := ⟨bq, 1, none⟩) (blk_far (p := ⟨bq, 0, none⟩) Ha (typed_ne Ha Hq (by decide)) (.slice A2q n2q c2q)) (typed_ne Ha Hq (by decide)) (.slice B2q m2q d2q)
  have hB := vbelow_set (p := ⟨bq, 1, none⟩) (v := .slice B2q m2q d2q) (vbelow_set (p := ⟨bq, 0, none⟩) (v := .slice A2q n2q c2q) hB hbq) hbq
  have Hq := put2 Hq (.slice A2q n2q c2q) (.slice B2q m2q d2q)
  have Hb := set2_new y2 ⟨bq, 0, none⟩ ⟨bq, 1, none⟩ (.slice A2q n2q c2q) (.slice B2q m2q d2q) (.cells #[.int .i64 1, .int .i64 1, .int .i64 0] 27)
  have hb2 := vbelow_alloc (Below.refl _ ((y2.setCell ⟨bq, 0, none⟩ (.slice A2q n2q c2q)).setCell ⟨bq, 1, none⟩ (.slice B2q m2q d2q))) (.cells #[.int .i64 1, .int .i64 1, .int .i64 0] 27)
  have Hq := heap_on Hq hb2
  have Ha := heap_on Ha hb2
  have hQ := hQ.move (KQ.on hb2)
  have hB := vbelow_alloc hB (.cells #[.int .i64 1, .int .i64 1, .int .i64 0] 27)
  clear hb2
  generalize y2.heap.size = bb at Hb ⊢
  generalize ((y2.setCell ⟨bq, 0, none⟩ (.slice A2q n2q c2q)).setCell ⟨bq, 1, none⟩ (.slice B2q m2q d2q)).alloc (.cells #[.int .i64 1, .int .i64 1, .int .i64 0] 27) = x3 at Hq Ha Hb hQ hB ⊢
  obtain ⟨hq0, hq1, hqF⟩ := blk2 Hq
  obtain ⟨ha0, ha1, ha2, haF⟩ := blk3 Ha
  obtain ⟨hb0, hb1, hb2, hbF⟩ := blk3 Hb
  have hqF0 := hqF 0
  have hqF1 := hqF 1
  go_wp2_with fail
  refine (Publish_more 1 60 60 1 0 8 1 (show QO _ _ aw2 [] from hQ).qv aw_c2 aw_sm2 (y := ⟨2, false, 0, [0, 1], 2, 0⟩) rfl aw_p1 (by decide)).mono ?_
  rintro e y3 ⟨v, rfl, hQn, hbn⟩
  obtain ⟨A3q, n3q, c3q, B3q, m3q, d3q, rfl, hQn⟩ := hQn.open_
  have hB := vbelow_step hB hbn
  clear hq0 hq1 ha0 ha1 ha2 hb0 hb1 hb2 hqF hqF0 hqF1
  have Hq := heap_on Hq hbn
  have Ha := heap_on Ha hbn
  have Hb := heap_on Hb hbn
  have hQ := hQ.move (KQ.on hbn)
  clear hbn
  obtain ⟨hq0, hq1, hqF⟩ := blk2 Hq
  obtain ⟨ha0, ha1, ha2, haF⟩ := blk3 Ha
  obtain ⟨hb0, hb1, hb2, hbF⟩ := blk3 Hb
  have hqF0 := hqF 0
  have hqF1 := hqF 1
  have lbq := blk_lt Hq
  have lba := blk_lt Ha
  have lbb := blk_lt Hb
  go_upto_region 5 with fail
  clear hq0 hq1 ha0 ha1 ha2 hb0 hb1 hb2 hqF hqF0 hqF1 lbq lba lbb
  have hb2 := vbelow_alloc (Below.refl _ y3) (.cells #[.slice A3q n3q c3q, .slice B3q m3q d3q] 25)
  have Hq := heap_on Hq hb2
  have Ha := heap_on Ha hb2
  have Hb := heap_on Hb hb2
  have hQ := hQ.move (KQ.on hb2)
  have hB := vbelow_alloc hB (.cells #[.slice A3q n3q c3q, .slice B3q m3q d3q] 25)
  clear hb2
  clear hQn
  try generalize y3.heap.size = bt1
  generalize y3.alloc (.cells #[.slice A3q n3q c3q, .slice B3q m3q d3q] 25) = x4 at Hq Ha Hb hQ hB ⊢
  obtain ⟨hq0, hq1, hqF⟩ := blk2 Hq
  obtain ⟨ha0, ha1, ha2, haF⟩ := blk3 Ha
  obtain ⟨hb0, hb1, hb2, hbF⟩ := blk3 Hb
  have hqF0 := hqF 0
  have hqF1 := hqF 1
  go_wp2_with fail
  refine (Publish_done 1 60 60 0 0 7 (show QO _ _ aw2 [] from hQ).qv aw_c2 aw_sm2 (y := ⟨2, false, 0, [0, 1], 2, 0⟩) rfl aw_p2 (by decide)).mono ?_
  rintro e y4 ⟨v, rfl, hQn, hbn⟩
  obtain ⟨A4q, n4q, c4q, B4q, m4q, d4q, rfl, hQn⟩ := hQn.open_
  have hB := vbelow_step hB hbn
  clear hq0 hq1 ha0 ha1 ha2 hb0 hb1 hb2 hqF hqF0 hqF1
  have Hq := heap_on Hq hbn
  have Ha := heap_on Ha hbn
  have Hb := heap_on Hb hbn
  clear hbn
  obtain ⟨hq0, hq1, hqF⟩ := blk2 Hq
  obtain ⟨ha0, ha1, ha2, haF⟩ := blk3 Ha
  obtain ⟨hb0, hb1, hb2, hbF⟩ := blk3 Hb
  have hqF0 := hqF 0
  have hqF1 := hqF 1
  have lbq := blk_lt Hq
  have lba := blk_lt Ha
  have lbb := blk_lt Hb
  go_upto_region 6 with fail
  clear hq0 hq1 ha0 ha1 ha2 hb0 hb1 hb2 hqF hqF0 hqF1 lbq lba lbb
  have hQ := (hQn.move (KQ.set Hq (by decide) 0 (.slice A4q n4q c4q))).move (KQ.set (heap_put' Hq) (by decide) 1 (.slice B4q m4q d4q))
  clear hQn
  have Ha := blk_far (p := ⟨bq, 1, none⟩) (blk_far (p := ⟨bq, 0, none⟩) Ha (typed_ne Ha Hq (by decide)) (.slice A4q n4q c4q)) (typed_ne Ha Hq (by decide)) (.slice B4q m4q d4q)
  have Hb := blk_far (p := ⟨bq, 1, none⟩) (blk_far (p := ⟨bq, 0, none⟩) Hb (typed_ne Hb Hq (by decide)) (.slice A4q n4q c4q)) (typed_ne Hb Hq (by decide)) (.slice B4q m4q d4q)
  have hB := vbelow_set (p := ⟨bq, 1, none⟩) (v := .slice B4q m4q d4q) (vbelow_set (p := ⟨bq, 0, none⟩) (v := .slice A4q n4q c4q) hB hbq) hbq
  have Hq := put2 Hq (.slice A4q n4q c4q) (.slice B4q m4q d4q)
  generalize (y4.setCell ⟨bq, 0, none⟩ (.slice A4q n4q c4q)).setCell ⟨bq, 1, none⟩ (.slice B4q m4q d4q) = x5 at Hq Ha Hb hQ hB ⊢
  obtain ⟨hq0, hq1, hqF⟩ := blk2 Hq
  obtain ⟨ha0, ha1, ha2, haF⟩ := blk3 Ha
  obtain ⟨hb0, hb1, hb2, hbF⟩ := blk3 Hb
  have hqF0 := hqF 0
  have hqF1 := hqF 1
  go_wp2_with fail
  refine (Ready_QV 60 1 1 0 true (show QO _ _ aw3 am3 from hQ).qv aw_r).mono ?_
  rintro e y5 ⟨rfl, hbn⟩
  have hB := vbelow_step hB hbn
  clear hq0 hq1 ha0 ha1 ha2 hb0 hb1 hb2 hqF hqF0 hqF1
  have Hq := heap_on Hq hbn
  have Ha := heap_on Ha hbn
  have Hb := heap_on Hb hbn
  have hQ := hQ.move (KQ.on hbn)
  clear hbn
  obtain ⟨hq0, hq1, hqF⟩ := blk2 Hq
  obtain ⟨ha0, ha1, ha2, haF⟩ := blk3 Ha
  obtain ⟨hb0, hb1, hb2, hbF⟩ := blk3 Hb
  have hqF0 := hqF 0
  have hqF1 := hqF 1
  have lbq := blk_lt Hq
  have lba := blk_lt Ha
  have lbb := blk_lt Hb
  go_upto_region 7 with fail
  clear hq0 hq1 ha0 ha1 ha2 hb0 hb1 hb2 hqF hqF0 hqF1 lbq lba lbb
  generalize y5 = x6 at Hq Ha Hb hQ hB ⊢
  obtain ⟨hq0, hq1, hqF⟩ := blk2 Hq
  obtain ⟨ha0, ha1, ha2, haF⟩ := blk3 Ha
  obtain ⟨hb0, hb1, hb2, hbF⟩ := blk3 Hb
  have hqF0 := hqF 0
  have hqF1 := hqF 1
  go_wp2_with fail
  refine (Take_ok 60 (show QO _ _ aw3 am3 from hQ).qv aw_c3 (m := ⟨1, 0, 0, 7⟩) rfl (by decide) (by decide) (by decide)).mono ?_
  rintro e y6 ⟨v, rfl, hQn, hbn⟩
  obtain ⟨A6q, n6q, c6q, B6q, m6q, d6q, rfl, hQn⟩ := hQn.open_
  have hB := vbelow_step hB hbn
  clear hq0 hq1 ha0 ha1 ha2 hb0 hb1 hb2 hqF hqF0 hqF1
  have Hq := heap_on Hq hbn
  have Ha := heap_on Ha hbn
  have Hb := heap_on Hb hbn
  clear hbn
  obtain ⟨hq0, hq1, hqF⟩ := blk2 Hq
  obtain ⟨ha0, ha1, ha2, haF⟩ := blk3 Ha
  obtain ⟨hb0, hb1, hb2, hbF⟩ := blk3 Hb
  have hqF0 := hqF 0
  have hqF1 := hqF 1
  have lbq := blk_lt Hq
  have lba := blk_lt Ha
  have lbb := blk_lt Hb
  go_upto_region 8 with fail
  clear hq0 hq1 ha0 ha1 ha2 hb0 hb1 hb2 hqF hqF0 hqF1 lbq lba lbb
  have hQ := (hQn.move (KQ.set Hq (by decide) 0 (.slice A6q n6q c6q))).move (KQ.set (heap_put' Hq) (by decide) 1 (.slice B6q m6q d6q))
  clear hQn
  have Ha := blk_far (p := ⟨bq, 1, none⟩) (blk_far (p := ⟨bq, 0, none⟩) Ha (typed_ne Ha Hq (by decide)) (.slice A6q n6q c6q)) (typed_ne Ha Hq (by decide)) (.slice B6q m6q d6q)
  have Hb := blk_far (p := ⟨bq, 1, none⟩) (blk_far (p := ⟨bq, 0, none⟩) Hb (typed_ne Hb Hq (by decide)) (.slice A6q n6q c6q)) (typed_ne Hb Hq (by decide)) (.slice B6q m6q d6q)
  have hB := vbelow_set (p := ⟨bq, 1, none⟩) (v := .slice B6q m6q d6q) (vbelow_set (p := ⟨bq, 0, none⟩) (v := .slice A6q n6q c6q) hB hbq) hbq
  have Hq := put2 Hq (.slice A6q n6q c6q) (.slice B6q m6q d6q)
  have Hm := set2_new y6 ⟨bq, 0, none⟩ ⟨bq, 1, none⟩ (.slice A6q n6q c6q) (.slice B6q m6q d6q) (.cells #[.int .i64 1, .int .i64 0, .int .i64 0, .int .u64 7] 40)
  have hb2 := vbelow_alloc (Below.refl _ ((y6.setCell ⟨bq, 0, none⟩ (.slice A6q n6q c6q)).setCell ⟨bq, 1, none⟩ (.slice B6q m6q d6q))) (.cells #[.int .i64 1, .int .i64 0, .int .i64 0, .int .u64 7] 40)
  have Hq := heap_on Hq hb2
  have Ha := heap_on Ha hb2
  have Hb := heap_on Hb hb2
  have hQ := hQ.move (KQ.on hb2)
  have hB := vbelow_alloc hB (.cells #[.int .i64 1, .int .i64 0, .int .i64 0, .int .u64 7] 40)
  clear hb2
  generalize y6.heap.size = bm at Hm ⊢
  generalize ((y6.setCell ⟨bq, 0, none⟩ (.slice A6q n6q c6q)).setCell ⟨bq, 1, none⟩ (.slice B6q m6q d6q)).alloc (.cells #[.int .i64 1, .int .i64 0, .int .i64 0, .int .u64 7] 40) = x7 at Hq Ha Hb Hm hQ hB ⊢
  obtain ⟨hq0, hq1, hqF⟩ := blk2 Hq
  obtain ⟨ha0, ha1, ha2, haF⟩ := blk3 Ha
  obtain ⟨hb0, hb1, hb2, hbF⟩ := blk3 Hb
  obtain ⟨hm0, hm1, hm2, hm3, hmF⟩ := blk4 Hm
  have hqF0 := hqF 0
  have hqF1 := hqF 1
  go_wp2_with fail
  refine (Retire_one 1 60 60 0 0 7 (show QO _ _ aw3 [] from hQ).qv aw_c4 aw_sm4 (y := ⟨2, false, 0, [1], 2, 0⟩) rfl aw_m rfl (by decide) (by decide) (by decide) (by decide) rfl).mono ?_
  rintro e y7 ⟨v, rfl, hQn, hbn⟩
  obtain ⟨A7q, n7q, c7q, B7q, m7q, d7q, rfl, hQn⟩ := hQn.open_
  have hB := vbelow_step hB hbn
  clear hq0 hq1 ha0 ha1 ha2 hb0 hb1 hb2 hm0 hm1 hm2 hm3 hqF hqF0 hqF1
  have Hq := heap_on Hq hbn
  have Ha := heap_on Ha hbn
  have Hb := heap_on Hb hbn
  have Hm := heap_on Hm hbn
  have hQ := hQ.move (KQ.on hbn)
  clear hbn
  obtain ⟨hq0, hq1, hqF⟩ := blk2 Hq
  obtain ⟨ha0, ha1, ha2, haF⟩ := blk3 Ha
  obtain ⟨hb0, hb1, hb2, hbF⟩ := blk3 Hb
  obtain ⟨hm0, hm1, hm2, hm3, hmF⟩ := blk4 Hm
  have hqF0 := hqF 0
  have hqF1 := hqF 1
  have lbq := blk_lt Hq
  have lba := blk_lt Ha
  have lbb := blk_lt Hb
  have lbm := blk_lt Hm
  go_upto_region 9 with fail
  clear hq0 hq1 ha0 ha1 ha2 hb0 hb1 hb2 hm0 hm1 hm2 hm3 hqF hqF0 hqF1 lbq lba lbb lbm
  have hb2 := vbelow_alloc (Below.refl _ y7) (.cells #[.slice A7q n7q c7q, .slice B7q m7q d7q] 25)
  have Hq := heap_on Hq hb2
  have Ha := heap_on Ha hb2
  have Hb := heap_on Hb hb2
  have Hm := heap_on Hm hb2
  have hQ := hQ.move (KQ.on hb2)
  have hB := vbelow_alloc hB (.cells #[.slice A7q n7q c7q, .slice B7q m7q d7q] 25)
  clear hb2
  clear hQn
  try generalize y7.heap.size = bt2
  generalize y7.alloc (.cells #[.slice A7q n7q c7q, .slice B7q m7q d7q] 25) = x8 at Hq Ha Hb Hm hQ hB ⊢
  obtain ⟨hq0, hq1, hqF⟩ := blk2 Hq
  obtain ⟨ha0, ha1, ha2, haF⟩ := blk3 Ha
  obtain ⟨hb0, hb1, hb2, hbF⟩ := blk3 Hb
  obtain ⟨hm0, hm1, hm2, hm3, hmF⟩ := blk4 Hm
  have hqF0 := hqF 0
  have hqF1 := hqF 1
  go_wp2_with fail
  refine (Reset_open 1 60 (show QO _ _ aw3 [] from hQ).qv aw_c4 aw_sm4 (y := ⟨2, false, 0, [1], 2, 0⟩) rfl (by decide)).mono ?_
  rintro e y8 ⟨v, rfl, hQn, hbn⟩
  obtain ⟨A8q, n8q, c8q, B8q, m8q, d8q, rfl, hQn⟩ := hQn.open_
  have hB := vbelow_step hB hbn
  clear hq0 hq1 ha0 ha1 ha2 hb0 hb1 hb2 hm0 hm1 hm2 hm3 hqF hqF0 hqF1
  have Hq := heap_on Hq hbn
  have Ha := heap_on Ha hbn
  have Hb := heap_on Hb hbn
  have Hm := heap_on Hm hbn
  have hQ := hQ.move (KQ.on hbn)
  clear hbn
  obtain ⟨hq0, hq1, hqF⟩ := blk2 Hq
  obtain ⟨ha0, ha1, ha2, haF⟩ := blk3 Ha
  obtain ⟨hb0, hb1, hb2, hbF⟩ := blk3 Hb
  obtain ⟨hm0, hm1, hm2, hm3, hmF⟩ := blk4 Hm
  have hqF0 := hqF 0
  have hqF1 := hqF 1
  have lbq := blk_lt Hq
  have lba := blk_lt Ha
  have lbb := blk_lt Hb
  have lbm := blk_lt Hm
  go_upto_region 10 with fail
  clear hq0 hq1 ha0 ha1 ha2 hb0 hb1 hb2 hm0 hm1 hm2 hm3 hqF hqF0 hqF1 lbq lba lbb lbm
  have hb2 := vbelow_alloc (Below.refl _ y8) (.cells #[.slice A8q n8q c8q, .slice B8q m8q d8q] 25)
  have Hq := heap_on Hq hb2
  have Ha := heap_on Ha hb2
  have Hb := heap_on Hb hb2
  have Hm := heap_on Hm hb2
  have hQ := hQ.move (KQ.on hb2)
  have hB := vbelow_alloc hB (.cells #[.slice A8q n8q c8q, .slice B8q m8q d8q] 25)
  clear hb2
  clear hQn
  try generalize y8.heap.size = bt3
  generalize y8.alloc (.cells #[.slice A8q n8q c8q, .slice B8q m8q d8q] 25) = x9 at Hq Ha Hb Hm hQ hB ⊢
  obtain ⟨hq0, hq1, hqF⟩ := blk2 Hq
  obtain ⟨ha0, ha1, ha2, haF⟩ := blk3 Ha
  obtain ⟨hb0, hb1, hb2, hbF⟩ := blk3 Hb
  obtain ⟨hm0, hm1, hm2, hm3, hmF⟩ := blk4 Hm
  go_wp2_with fail
  refine (Check_QV 60 (show QO _ _ aw3 [] from hQ).qv aw_c4).mono ?_
  rintro e y ⟨rfl, hbn⟩
  have hB := vbelow_step hB hbn
  go_wp2_with fail
  go_ret
  exact ⟨rfl, hB⟩
end Go.Proofs.Ytcifbemppbegbaa.Q

/- Layer 10: light: a queue with not many more things than there may be. -/
namespace Go.Proofs.Ytcifbemppbegbaa.Q
open Go.RowKit Go.Proofs.YtcifbemppbegbaaW.PrintWords Go.Proofs.YtcifbemppbegbaaW.PrintMore Go.Proofs.YtcifbemppbegbaaW.PrintLast
set_option linter.unusedVariables false
set_option linter.unusedSimpArgs false
def cutLane (x : S61) : S61 := { x with f3 := x.f3.take 70 }
def lt0 (l0 : List S61) : List S61 := (l0.take 18).map cutLane
def lt1 (l1 : List S40) : List S40 := l1.take 100
def LightRow (w0 w W : World) (V : Value) (l0 : List S61) (i : Nat) : Prop := ∃ cs : List Value, W.ownsRow w.heap.size 61 6 V i cs ∧ cs.length = i * 6 ∧ ∀ (j : Nat) (x : S61), j < i → l0[j]? = some x → ∃ A c, (cs.drop (j * 6)).take 6 = chunk (cutLane x) A c ∧ (cutLane x).f3.length ≤ c ∧ (Kd.int .i64).C w0 A (cutLane x).f3.length (cutLane x).f3
theorem LightRow.on {w0 w W W' : World} {V : Value} {l0 : List S61} {i : Nat} (h : LightRow w0 w W V l0 i) (hb : Below W.heap.size W W') : LightRow w0 w W' V l0 i := by
  obtain ⟨cs, h1, h2, h3⟩ := h
  exact ⟨cs, ownsRow_on h1 hb, h2, h3⟩
theorem LightRow.set {w0 w W : World} {V : Value} {l0 : List S61} {i g t : Nat} {cells : Array Value} (h : LightRow w0 w W V l0 i) (hg : W.heap[g]? = some (.cells cells t (0, 0))) (ht : t ≠ 61) (j : Nat) (u : Value) : LightRow w0 w (W.setCell ⟨g, j, none⟩ u) V l0 i := by
  obtain ⟨cs, h1, h2, h3⟩ := h
  exact ⟨cs, ownsRow_set h1 hg ht j u, h2, h3⟩
theorem LightRow.step {w0 w W1 : World} {V1 : Value} {l0 : List S61} {i : Nat} {x : S61} {A : Option Addr} {c : Nat} {cs : List Value} (h1 : W1.ownsRow w.heap.size 61 6 V1 (i + 1) (cs ++ chunk (cutLane x) A c)) (h2 : cs.length = i * 6) (h3 : ∀ (j : Nat) (x : S61), j < i → l0[j]? = some x → ∃ A c, (cs.drop (j * 6)).take 6 = chunk (cutLane x) A c ∧ (cutLane x).f3.length ≤ c ∧ (Kd.int .i64).C w0 A (cutLane x).f3.length (cutLane x).f3) (hx : l0[i]? = some x) (hc : (cutLane x).f3.length ≤ c) (hC : (Kd.int .i64).C w0 A (cutLane x).f3.length (cutLane x).f3) : LightRow w0 w W1 V1 l0 (i + 1) := by
  refine ⟨_, h1, by rw [List.length_append, h2]; show i * 6 + 6 = _; omega, fun j y hj hy => ?_⟩
  by_cases hji : j = i
  · subst hji
    rw [hx] at hy
    obtain rfl := Option.some.inj hy
    refine ⟨A, c, ?_, hc, hC⟩
    rw [List.drop_append_of_le_length (by omega), List.drop_eq_nil_of_le (by omega)]
    rfl
  · obtain ⟨A', c', h4, h5, h6⟩ := h3 j y (by omega) hy
    refine ⟨A', c', ?_, h5, h6⟩
    rw [List.drop_append_of_le_length (by omega), List.take_append_of_le_length (by rw [List.length_drop]; omega)]
    exact h4
theorem lt0_length (l0 : List S61) : (lt0 l0).length = min l0.length 18 := by
  unfold lt0
  rw [List.length_map, List.length_take, Nat.min_comm]
theorem LightRow.done {w0 w W : World} {V : Value} {l0 : List S61} {i : Nat} (h : LightRow w0 w W V l0 i) (hi : i = (lt0 l0).length) : ∃ A c, V = .slice A (lt0 l0).length c ∧ (lt0 l0).length ≤ c ∧ ∀ W', Below w0.heap.size w0 W' → KL W W' → Kd.C k61 W' A (lt0 l0).length (lt0 l0) := by
  obtain ⟨cs, h1, h2, h3⟩ := h
  subst hi
  have hmax : (lt0 l0).length ≤ 18 := by rw [lt0_length]; omega
  rcases h1.2 with ⟨rfl, h0⟩ | ⟨g, cap, cur, rfl, hg, hh, hle, hcap, hsz, htake⟩
  · refine ⟨none, 0, by rw [h0], by omega, fun W' _ _ => ⟨rfl, by omega, fun hp => by omega⟩⟩
  · refine ⟨some ⟨g, 0, none⟩, cap, rfl, hle, fun W' hb hk => ⟨rfl, by omega, fun _ => ⟨_, rfl, fun j y hy => ?_⟩⟩⟩
    have hh := (hk g cur 61 (.inl rfl) hh).trans hh
    have hj : j < (lt0 l0).length := (List.getElem?_eq_some_iff.1 hy).1
    have hj' := hj
    rw [lt0_length] at hj'
    have hx : l0[j]? = some l0[j] := List.getElem?_eq_getElem (by omega)
    have hyx : y = cutLane l0[j] := by
      unfold lt0 at hy
      rw [List.getElem?_map, List.getElem?_take, if_pos (by omega), hx] at hy
      exact (Option.some.inj hy).symm
    subst hyx
    obtain ⟨A, c, h4, h5, h6⟩ := h3 j _ hj hx
    refine ⟨chunk (cutLane l0[j]) A c, rfl, k61_mk W' _ h5 (Kd.C_below h6 hb), fun r u hu => ?_⟩
    have hr : r < 6 := (List.getElem?_eq_some_iff.1 hu).1
    have e : (Addr.add ⟨g, 0, none⟩ (j * k61.sz + r)) = ⟨g, j * 6 + r, none⟩ := by
      show Addr.add ⟨g, 0, none⟩ (j * 6 + r) = _
      unfold Addr.add
      by_cases h0 : j * 6 + r = 0
      · rw [h0]; rfl
      · rw [if_neg h0, Nat.zero_add]
    rw [e, cell_in hh]
    rw [← h4, ← htake, List.getElem?_take, if_pos hr, List.getElem?_drop, List.getElem?_take, if_pos (by omega), Array.getElem?_toList] at hu
    exact hu
/-- A queue that came in, lightened: it stands as long as what came in does, and the lanes' row. -/
def QL (w0 wf : World) (v : Value) (l0 : List S61) (l1 : List S40) : Prop := ∃ A0 c0 A1 c1, v = .agg #[.slice A0 l0.length c0, .slice A1 l1.length c1] ∧ l0.length ≤ c0 ∧ l1.length ≤ c1 ∧ ∀ W', Below w0.heap.size w0 W' → KL wf W' → Kd.C k61 W' A0 l0.length l0 ∧ Kd.C k40 W' A1 l1.length l1
theorem min_form (n : Nat) (k : Int) (hk : 0 ≤ k) : ∃ m : Nat, (if k < (n : Int) then k else (n : Int)) = (m : Int) ∧ m ≤ n ∧ m = min n k.toNat := by
  by_cases h : k < (n : Int)
  · exact ⟨k.toNat, by rw [if_pos h]; omega, by omega, by omega⟩
  · exact ⟨n, by rw [if_neg h], Nat.le_refl _, by omega⟩
set_option maxRecDepth 100000 in
set_option maxHeartbeats 8000000 in
theorem light_calls {v : Value} {l0 : List S61} {l1 : List S40} {w0 w : World} (h : QV w0 v l0 l1) (hb0 : Below w0.heap.size w0 w) : Calls Try.prog 8 #[v] w fun e w' => ∃ v', e = .returned v' ∧ QL w0 w' v' (lt0 l0) (lt1 l1) ∧ Below w.heap.size w w' := by
  obtain ⟨A0, c0, A1, c1, rfl, h0, h1, hC0, hC1⟩ := h
  obtain ⟨i0, hi0_, hz0, hz1, hz2⟩ := info_parts info40
  obtain ⟨m1, hm1, hle1, hmin1⟩ := min_form l1.length 100 (by decide)
  have hcu1 := cut_to (P := Try.prog) 23 40 .i64 Try.underlying23 hi0_ A1 l1.length c1 (m1 : Int) (by omega) (by omega) h1
  rw [Int.toNat_natCast] at hcu1
  have hl1 : (lt1 l1).length = m1 := by unfold lt1; rw [List.length_take, hmin1]; omega
  have hCm := Kd.C_take (m := m1) hC1 hle1
  have ht1 : l1.take m1 = lt1 l1 := by
    unfold lt1
    rw [hmin1]
    by_cases hh : l1.length ≤ 100
    · rw [List.take_of_length_le (by omega), List.take_of_length_le (by omega)]
    · rw [show min l1.length (100 : Int).toNat = 100 by omega]
  rw [ht1] at hCm
  have hl1h := Lib.hid hl1
  have hm1h := Lib.hid hm1
  have hle1h : Hid (m1 ≤ c1) := Lib.hid (Nat.le_trans hle1 h1)
  have hCmh := Lib.hid hCm
  clear hmin1 ht1 hl1 hCm hz0 hz1 hz2 hi0_ hle1
  go_enter Try.func8, Try.ntmps8
  go_upto_region 2 with fail
  obtain ⟨q1, q2, qz, hBB⟩ := two_blocks w (.cells #[.slice A0 l0.length c0, .slice A1 m1 c1] 25) (.cells #[.slice none 0 0, .slice none 0 0] 25)
  generalize (w.alloc (.cells #[.slice A0 l0.length c0, .slice A1 m1 c1] 25)).alloc (.cells #[.slice none 0 0, .slice none 0 0] 25) = w2 at q1 q2 qz hBB ⊢
  have hR0 : LightRow w0 w w2 (.slice none 0 0) l0 0 := ⟨[], World.ownsRow_nil _ _ _ _, rfl, fun j x hj => absurd hj (Nat.not_lt_zero _)⟩
  have hmx : Try.prog.follows .mixedOrders = true := by kernel_rfl
  clear qz hcu1 hm1 hC1
  go_wp2_with fail
  go_loopw [3, 4] (fun v3 v4 wr => ∃ i : Nat, i ≤ l0.length ∧ i ≤ 18 ∧ v4 = .int .i64 (i : Int) ∧ LightRow w0 w wr v3 l0 i ∧ Below w.heap.size w wr ∧ wr.heap[w.heap.size]? = some (.cells #[.slice A0 l0.length c0, .slice A1 m1 c1] 25 (0, 0)) ∧ wr.heap[w.heap.size + 1]? = some (.cells #[.slice none 0 0, .slice none 0 0] 25 (0, 0)))
    (fun _ v4 _ => match v4 with | .int _ z => 18 - z.toNat | _ => 0)
  case atStart => exact ⟨0, Nat.zero_le _, Nat.zero_le _, rfl, hR0, hBB, q1, q2⟩
  case round =>
    clear q1 q2 hR0 hBB
    obtain ⟨i, hi, hi18, rfl, hR, hB, q1, q2⟩ := hrel
    obtain ⟨a0, a1, aF⟩ := blk2 q1
    have aF0 := aF 0
    by_cases hlt : i < l0.length ∧ i < 18
    · have d1 : decide ((i : Int) < (l0.length : Int)) = true := decide_eq_true (by omega)
      have d2 : decide ((i : Int) < 18) = true := decide_eq_true (by omega)
      have k0 : (0 : Int) ≤ (i : Int) := by omega
      have k1 : (i : Int) < (l0.length : Int) := by omega
      have hx : l0[i]? = some l0[i] := List.getElem?_eq_getElem hlt.1
      generalize l0[i] = x at hx
      have hyr : rd_T61 l0 (i : Int) = x := by
        unfold rd_T61
        rw [Int.toNat_natCast, List.getD_eq_getElem?_getD, hx]
        rfl
      obtain ⟨ad, A4, c4, e2, m0, m1_, m2, m3, m4, m5, hl4, hC4⟩ := at_T61 hC0 (i : Int) k0 k1
      subst e2
      rw [hyr] at m0 m1_ m2 m3 m4 m5 hl4 hC4
      rw [Int.toNat_natCast] at m0 m1_ m2 m3 m4 m5
      have p0 := vcell (vbelow_step hb0 hB) m0
      have p1 := vcell (vbelow_step hb0 hB) m1_
      have p2 := vcell (vbelow_step hb0 hB) m2
      have p3 := vcell (vbelow_step hb0 hB) m3
      have p4 := vcell (vbelow_step hb0 hB) m4
      have p5 := vcell (vbelow_step hb0 hB) m5
      obtain ⟨mm, hm2, hle2, hmin2⟩ := min_form x.f3.length 70 (by decide)
      obtain ⟨i0, hi0_, hz0, hz1, hz2⟩ := info_parts infoI3
      have hcu2 := cut_to (P := Try.prog) 48 3 .i64 Try.underlying48 hi0_ A4 x.f3.length c4 (mm : Int) (by omega) (by omega) hl4
      rw [Int.toNat_natCast] at hcu2
      have hl2 : (cutLane x).f3.length = mm := by show (x.f3.take 70).length = mm; rw [List.length_take, hmin2]; omega
      have hCm2 := Kd.C_take (m := mm) hC4 hle2
      have ht2 : x.f3.take mm = (cutLane x).f3 := by
        show _ = x.f3.take 70
        rw [hmin2]
        by_cases hh : x.f3.length ≤ 70
        · rw [List.take_of_length_le (by omega), List.take_of_length_le (by omega)]
        · rw [show min x.f3.length (70 : Int).toNat = 70 by omega]
      rw [ht2] at hCm2
      have hcc : (cutLane x).f3.length ≤ c4 := by omega
      have hl2h := Lib.hid hl2
      have hxh := Lib.hid hx
      have hlth := Lib.hid hlt
      clear hl2 ht2 hmin2 hle2 hz0 hz1 hz2 hi0_ m0 m1_ m2 m3 m4 m5 hyr hC4 hx hl4 aF hlt
      obtain ⟨cs, r1, r2, r3⟩ := hR
      have r2h := Lib.hid r2
      clear r2
      have hba := vbelow_alloc (Below.refl wr.heap.size wr) (.cells #[.int .i64 x.f0, .bool x.f1, .int .i64 x.f2, .slice A4 mm c4, .int .i64 x.f4, .int .i64 x.f5] 61)
      have hBa := vbelow_step hB hba
      have ra := ownsRow_on r1 hba
      have qa1 := heap_on q1 hba
      have qa2 := heap_on q2 hba
      go_upto_region 8 with fail
      clear p0 p1 p2 p3 p4 p5 hcu2 hm2 a0 a1 aF0 q1 q2 r1 hB
      go_wp2_with ((with_reducible refine gate_builtin (b := .append) (xs := #[.tmp 38, .tmp 40]) rfl ?_); at_builtin; refine print_append_cells (w0 := w) w.heap.size rfl (.tmp 38) (.tmp 40) 22 61 (.agg #[(.int .i64 0), (.bool false), (.int .i64 0), (.slice none 0 0), (.int .i64 0), (.int .i64 0)]) 6 64 rfl Try.underlying22 info61 rfl (by decide) (by decide) _ i cs [.int .i64 x.f0, .bool x.f1, .int .i64 x.f2, .slice A4 mm c4, .int .i64 x.f4, .int .i64 x.f5] rfl ?hx rfl ?hone ra hBa hBa.size ?hl ?_; (case hx => exact congrArg (fun n => Value.slice (some ⟨n, 0, none⟩) 1 1) (World.size_alloc _ _).symm); (case hone => intro u hu; simp only [List.mem_cons, List.not_mem_nil, or_false] at hu; rcases hu with rfl | rfl | rfl | rfl | rfl | rfl <;> rfl); (case hl => omega); intro v1 w5 hown hb5 hg5 hat5)
      have hys : ([.int .i64 x.f0, .bool x.f1, .int .i64 x.f2, .slice A4 mm c4, .int .i64 x.f4, .int .i64 x.f5] : List Value) = chunk (cutLane x) A4 c4 := by unfold chunk; rw [hl2h.out]; rfl
      rw [hys] at hown
      have hst := LightRow.step hown r2h.out r3 hxh.out hcc hCm2
      have hgb : ∀ k, k < w.heap.size + 1 + 1 → w.heap.size ≤ k → (∃ cs_, (wr.alloc (.cells #[.int .i64 x.f0, .bool x.f1, .int .i64 x.f2, .slice A4 mm c4, .int .i64 x.f4, .int .i64 x.f5] 61)).heap[k]? = some (.cells cs_ 25 (0, 0))) → w5.heap[k]? = (wr.alloc (.cells #[.int .i64 x.f0, .bool x.f1, .int .i64 x.f2, .slice A4 mm c4, .int .i64 x.f4, .int .i64 x.f5] 61)).heap[k]? := fun k hk1 hk2 hk3 => by
        obtain ⟨cs_, hk3⟩ := hk3
        refine hg5.block k (Array.getElem?_eq_some_iff.1 hk3).1 (fun e => ?_)
        obtain ⟨cells', hc'⟩ := own_typed ra k e.symm
        rw [hk3] at hc'
        simp at hc'
      have qb1 := (hgb _ (by omega) (Nat.le_refl _) ⟨_, qa1⟩).trans qa1
      have qb2 := (hgb _ (by omega) (Nat.le_succ _) ⟨_, qa2⟩).trans qa2
      clear hgb hg5 hat5 hown ra hba hBa qa1 qa2 r3
      go_wp2_with fail
      go_roundw
      case rel => exact ⟨i + 1, by have := hlth.out; omega, by have := hlth.out; omega, by go_num, hst, hb5, qb1, qb2⟩
      case measure => simp; have := hlth.out; omega
    · have hie : i = (lt0 l0).length := by rw [lt0_length]; omega
      obtain ⟨A9, c9, rfl, hc9, _⟩ := hR.done hie
      have hieh := Lib.hid hie
      clear hie
      obtain ⟨b0, b1, bF⟩ := blk2 q2
      have bF0 := bF 0
      have bF1 := bF 1
      by_cases hlo : i < l0.length
      · have d1 : decide ((i : Int) < (l0.length : Int)) = true := decide_eq_true (by omega)
        have d2 : decide ((i : Int) < 18) = false := decide_eq_false (by omega)
        have d3 : decide (i < l0.length) = true := decide_eq_true hlo
        clear hlt
        have y1 := blk_far q2 (p := ⟨w.heap.size, 0, none⟩) (Nat.succ_ne_self _) (.slice A9 (lt0 l0).length c9)
        have z1 := hR.set q1 (by decide) 0 (.slice A9 (lt0 l0).length c9)
        have z2 := z1.set y1 (by decide) 0 (.slice A9 (lt0 l0).length c9)
        have z3 := z2.set (heap_put' y1) (by decide) 1 (.slice A1 m1 c1)
        have hBf := vbelow_set (p := ⟨w.heap.size + 1, 1, none⟩) (v := .slice A1 m1 c1) (vbelow_set (p := ⟨w.heap.size + 1, 0, none⟩) (v := .slice A9 (lt0 l0).length c9) (vbelow_set (p := ⟨w.heap.size, 0, none⟩) (v := .slice A9 (lt0 l0).length c9) hB (Nat.le_refl _)) (Nat.le_succ _)) (Nat.le_succ _)
        obtain ⟨A8, c8, e8, hc8, hC8⟩ := z3.done hieh.out
        injection e8 with e1 e2 e3
        subst e1
        subst e3
        go_wp2_with fail
        refine bodyPost_ret (results_cell_row rfl _ _ (w.heap.size + 1) 25 #[.slice A9 (lt0 l0).length c9, .slice A1 m1 c1] (0, 0) _ rfl (put2 y1 _ _) Try.underlying25 rfl (by kernel_rfl)) rfl ?_
        exact ⟨_, rfl, ⟨A9, c9, A1, c1, by rw [hl1h.out], hc9, by rw [hl1h.out]; exact hle1h.out, fun W' hb hk => ⟨hC8 W' hb hk, Kd.C_below hCmh.out hb⟩⟩, hBf⟩
      · have d1 : decide ((i : Int) < (l0.length : Int)) = false := decide_eq_false (by omega)
        have d3 : decide (i < l0.length) = false := decide_eq_false hlo
        clear hlt
        have y1 := blk_far q2 (p := ⟨w.heap.size, 0, none⟩) (Nat.succ_ne_self _) (.slice A9 (lt0 l0).length c9)
        have z1 := hR.set q1 (by decide) 0 (.slice A9 (lt0 l0).length c9)
        have z2 := z1.set y1 (by decide) 0 (.slice A9 (lt0 l0).length c9)
        have z3 := z2.set (heap_put' y1) (by decide) 1 (.slice A1 m1 c1)
        have hBf := vbelow_set (p := ⟨w.heap.size + 1, 1, none⟩) (v := .slice A1 m1 c1) (vbelow_set (p := ⟨w.heap.size + 1, 0, none⟩) (v := .slice A9 (lt0 l0).length c9) (vbelow_set (p := ⟨w.heap.size, 0, none⟩) (v := .slice A9 (lt0 l0).length c9) hB (Nat.le_refl _)) (Nat.le_succ _)) (Nat.le_succ _)
        obtain ⟨A8, c8, e8, hc8, hC8⟩ := z3.done hieh.out
        injection e8 with e1 e2 e3
        subst e1
        subst e3
        go_wp2_with fail
        refine bodyPost_ret (results_cell_row rfl _ _ (w.heap.size + 1) 25 #[.slice A9 (lt0 l0).length c9, .slice A1 m1 c1] (0, 0) _ rfl (put2 y1 _ _) Try.underlying25 rfl (by kernel_rfl)) rfl ?_
        exact ⟨_, rfl, ⟨A9, c9, A1, c1, by rw [hl1h.out], hc9, by rw [hl1h.out]; exact hle1h.out, fun W' hb hk => ⟨hC8 W' hb hk, Kd.C_below hCmh.out hb⟩⟩, hBf⟩
end Go.Proofs.Ytcifbemppbegbaa.Q

/- Layer 10: lanes of one's own, out of the printed form; a lane that is written whole. -/
namespace Go.Proofs.Ytcifbemppbegbaa.Q
open Go.RowKit Go.Proofs.YtcifbemppbegbaaW.PrintWords Go.Proofs.YtcifbemppbegbaaW.PrintMore Go.Proofs.YtcifbemppbegbaaW.PrintLast
set_option linter.unusedVariables false
set_option linter.unusedSimpArgs false
theorem Half.of_S {w : World} {B : Nat} {v : Value} {xs : List S61} (h : Kd.S k61 61 w B (fun _ => True) v xs) (hn : 0 < xs.length) : ∃ gl cap, v = .slice (some ⟨gl, 0, none⟩) xs.length cap ∧ xs.length ≤ cap ∧ Half w B w gl xs.length cap xs xs.length := by
  obtain ⟨f, h0, inner, ho, hr⟩ := h
  rw [List.length_zipIdx] at ho
  have hil : inner.length = xs.length * 6 := by
    have := hr.1
    rw [List.length_zipIdx] at this
    exact this
  have open_ : ∀ (j : Nat) (x : S61), xs[j]? = some x → ∃ v3, (inner.drop (j * 6)).take 6 = [.int .i64 x.f0, .bool x.f1, .int .i64 x.f2, v3, .int .i64 x.f4, .int .i64 x.f5] ∧ (Kd.int .i64).R 3 w B (fun k => (True ∧ some k ≠ v.ownBlock) ∧ f k = j) v3 x.f3 := fun j x hx => by
    have h1 : k61.M w B (fun k => (True ∧ some k ≠ v.ownBlock) ∧ f k = j) x ((inner.drop (j * 6)).take 6) := hr.2 j (x, j) (Kd.zip_at hx)
    obtain ⟨v3, h2, h3⟩ := k61_openM h1
    exact ⟨v3, h2, h3⟩
  have vat : ∀ (j : Nat) (u : Value), ((List.range xs.length).map fun j => inner.getD (j * 6 + 3) (.int .i64 0))[j]? = some u → u = inner.getD (j * 6 + 3) (.int .i64 0) ∧ j < xs.length := fun j u hu => by
    rw [List.getElem?_map, Option.map_eq_some_iff] at hu
    obtain ⟨k, hk, rfl⟩ := hu
    have hj : j < xs.length := by have := (List.getElem?_eq_some_iff.1 hk).1; simpa using this
    have : k = j := by
      rw [List.getElem?_range hj] at hk
      exact (Option.some.inj hk).symm
    rw [this]
    exact ⟨rfl, hj⟩
  have at3 : ∀ (j : Nat) (x : S61) (u : Value), xs[j]? = some x → ((List.range xs.length).map fun j => inner.getD (j * 6 + 3) (.int .i64 0))[j]? = some u → (inner.drop (j * 6)).take 6 = [.int .i64 x.f0, .bool x.f1, .int .i64 x.f2, u, .int .i64 x.f4, .int .i64 x.f5] ∧ (Kd.int .i64).R 3 w B (fun k => (True ∧ some k ≠ v.ownBlock) ∧ f k = j) u x.f3 := fun j x u hx hu => by
    obtain ⟨v3, h2, h3⟩ := open_ j x hx
    have h4 := chunk_at h2
    have : u = v3 := by
      rw [(vat j u hu).1, List.getD_eq_getElem?_getD, h4]
      rfl
    rw [this]
    exact ⟨h2, h3⟩
  rcases ho.2 with ⟨rfl, hz⟩ | ⟨g, cap, cur, rfl, hg, hh, hle, hcap, hsz, htake⟩
  · omega
  · have ox : ∀ (j : Nat) (u : Value), ((List.range xs.length).map fun j => inner.getD (j * 6 + 3) (.int .i64 0))[j]? = some u → ∀ k, u.ownBlock = some k → k ≠ g ∧ f k = j := fun j u hu k hk => by
      have hj := (vat j u hu).2
      obtain ⟨_, hR, _⟩ := at3 j _ u (List.getElem?_eq_getElem hj) hu
      obtain ⟨⟨_, h1⟩, h2⟩ := hR k hk
      exact ⟨fun e => h1 (by rw [e]; rfl), h2⟩
    refine ⟨g, cap, rfl, hle, inner, _, ho, rfl, hil, by simp, fun j x u hx hu => (at3 j x u hx hu).1, fun j x u hj hx hu => Kd.R_mono (at3 j x u hx hu).2 (fun _ _ => trivial), fun j x u hj hx hu => ?_, fun j u k hj hu hk => (ox j u hu k hk).1, fun j j' u u' hj hj' hne hu hu' => ?_⟩
    · have := (vat j u hu).2
      omega
    · cases hk : u.ownBlock with
      | none => exact .inl rfl
      | some k =>
        refine .inr fun e => ?_
        have h1 := (ox j u hu k hk).2
        have h2 := (ox j' u' hu' k (e.symm)).2
        omega
/-- The lanes other than lane i. -/
def RdBut (W : World) (gl : Nat) (xs : List S61) (i : Nat) : Prop := ∃ cur : Array Value, W.heap[gl]? = some (.cells cur 61 (0, 0)) ∧ ((cur.toList.drop (i * 6)).take 6).length = 6 ∧ ∀ (j : Nat) (x : S61), j ≠ i → xs[j]? = some x → ∃ A c, (cur.toList.drop (j * 6)).take 6 = chunk x A c ∧ x.f3.length ≤ c ∧ ∀ W' : World, K3 W W' → (Kd.int .i64).C W' A x.f3.length x.f3
theorem RdBut.move {W W' : World} {gl i : Nat} {xs : List S61} (h : RdBut W gl xs i) (hg : W'.heap[gl]? = W.heap[gl]?) (hk : K3 W W') : RdBut W' gl xs i := by
  obtain ⟨cur, h1, h0, h2⟩ := h
  refine ⟨cur, hg.trans h1, h0, fun j x hj hx => ?_⟩
  obtain ⟨A, c, h3, h4, h5⟩ := h2 j x hj hx
  exact ⟨A, c, h3, h4, fun W2 hk2 => h5 W2 (hk.trans hk2)⟩
theorem set6 {l : List Value} (h : l.length = 6) (u0 u1 u2 u3 u4 u5 : Value) : (((((l.set 0 u0).set 1 u1).set 2 u2).set 3 u3).set 4 u4).set 5 u5 = [u0, u1, u2, u3, u4, u5] := by
  match l, h with
  | [a, b, c, d, e, f], _ => rfl
/-- Lane i is written whole. -/
theorem RdBut.store6 {W : World} {gl i c : Nat} {xs : List S61} {z : S61} {A : Option Addr} (h : RdBut W gl xs i) (hi : i < xs.length) (hc : z.f3.length ≤ c) (hC : ∀ W', K3 W W' → (Kd.int .i64).C W' A z.f3.length z.f3) :
    Rd ((((((W.setCell ⟨gl, i * 6, none⟩ (.int .i64 z.f0)).setCell ⟨gl, i * 6 + 1, none⟩ (.bool z.f1)).setCell ⟨gl, i * 6 + 2, none⟩ (.int .i64 z.f2)).setCell ⟨gl, i * 6 + 3, none⟩ (.slice A z.f3.length c)).setCell ⟨gl, i * 6 + 4, none⟩ (.int .i64 z.f4)).setCell ⟨gl, i * 6 + 5, none⟩ (.int .i64 z.f5)) gl (xs.set i z) := by
  obtain ⟨cur, h1, h0, h2⟩ := h
  have g0 := heap_put' (j := i * 6 + 0) (u := .int .i64 z.f0) h1
  have g1 := heap_put' (j := i * 6 + 1) (u := .bool z.f1) g0
  have g2 := heap_put' (j := i * 6 + 2) (u := .int .i64 z.f2) g1
  have g3 := heap_put' (j := i * 6 + 3) (u := .slice A z.f3.length c) g2
  have g4 := heap_put' (j := i * 6 + 4) (u := .int .i64 z.f4) g3
  have g5 := heap_put' (j := i * 6 + 5) (u := .int .i64 z.f5) g4
  have hK : K3 W ((((((W.setCell ⟨gl, i * 6 + 0, none⟩ (.int .i64 z.f0)).setCell ⟨gl, i * 6 + 1, none⟩ (.bool z.f1)).setCell ⟨gl, i * 6 + 2, none⟩ (.int .i64 z.f2)).setCell ⟨gl, i * 6 + 3, none⟩ (.slice A z.f3.length c)).setCell ⟨gl, i * 6 + 4, none⟩ (.int .i64 z.f4)).setCell ⟨gl, i * 6 + 5, none⟩ (.int .i64 z.f5)) := ((((((K3.set h1 (by decide) _ _).trans (K3.set g0 (by decide) _ _)).trans (K3.set g1 (by decide) _ _)).trans (K3.set g2 (by decide) _ _)).trans (K3.set g3 (by decide) _ _)).trans (K3.set g4 (by decide) _ _))
  refine ⟨_, g5, fun j y hy => ?_⟩
  simp only [Array.toList_setIfInBounds]
  rw [take6_put (by decide), take6_put (by decide), take6_put (by decide), take6_put (by decide), take6_put (by decide), take6_put (by decide)]
  rw [List.getElem?_set] at hy
  by_cases hij : i = j
  · subst hij
    simp only [if_pos rfl] at hy ⊢
    rw [if_pos hi] at hy
    obtain rfl := Option.some.inj hy
    exact ⟨A, c, set6 h0 _ _ _ _ _ _, hc, fun W2 hk2 => hC W2 (hK.trans hk2)⟩
  · simp only [if_neg hij] at hy ⊢
    obtain ⟨A2, c2, h3, h4, h5⟩ := h2 j y (fun e => hij e.symm) hy
    exact ⟨A2, c2, h3, h4, fun W2 hk2 => h5 W2 (hK.trans hk2)⟩
/-- A lane's claims have gone on: the other lanes stand. -/
theorem Half.others {w0 W W1 : World} {B gl n cap i c : Nat} {xs : List S61} {x : S61} {A : Option Addr} (h : Half w0 B W gl n cap xs n) (hx : xs[i]? = some x) (hu : W.cell? ⟨gl, i * 6 + 3, none⟩ = some (.slice A x.f3.length c)) (hg : W.grownBy W1 (Value.slice A x.f3.length c).ownBlock) : RdBut W1 gl xs i ∧ W1.heap[gl]? = W.heap[gl]? := by
  obtain ⟨cur, cs, vs, h1, hn, htk, hvl, hch, hown, hgl, hne⟩ := h.heap
  have hil : i < n := by have := (List.getElem?_eq_some_iff.1 hx).1; omega
  have hvi : vs[i]? = some vs[i] := List.getElem?_eq_getElem (by omega)
  have hui : vs[i] = .slice A x.f3.length c := by
    have h3 := chunk_at ((htk i hil).trans (hch i x _ hx hvi))
    rw [cell_in h1] at hu
    rw [Array.getElem?_toList, hu] at h3
    exact (Option.some.inj h3).symm
  rw [hui] at hvi
  have hgg : W1.heap[gl]? = W.heap[gl]? := hg.block gl (Array.getElem?_eq_some_iff.1 h1).1 (fun e => hgl i _ gl hil hvi e.symm rfl)
  refine ⟨⟨cur, hgg.trans h1, by rw [htk i hil, hch i x _ hx hvi]; rfl, fun j y hij hy => ?_⟩, hgg⟩
  have hjl : j < n := by have := (List.getElem?_eq_some_iff.1 hy).1; omega
  have hvj : vs[j]? = some vs[j] := List.getElem?_eq_getElem (by omega)
  have hRj := hown j y _ hjl hy hvj
  have hRj1 : (Kd.int .i64).R 3 W1 B (fun k => vs[j].ownBlock = some k) vs[j] y.f3 := Kd.R_grown (R_tight hRj (ok' := fun k => vs[j].ownBlock = some k) (fun k hk => hk)) hg (fun k hk => by
    rcases hne j i _ _ hjl hil hij hvj hvi with h3 | h3
    · rw [h3] at hk; cases hk
    · rw [← hk]; exact h3)
  obtain ⟨A2, c2, e2⟩ := Kd.R_slice hRj1
  rw [htk j hjl, hch j y _ hy hvj, e2]
  rw [e2] at hRj1
  obtain ⟨_, h3, h4⟩ := R3_K3 hRj1
  exact ⟨A2, c2, rfl, h3, h4⟩
end Go.Proofs.Ytcifbemppbegbaa.Q
