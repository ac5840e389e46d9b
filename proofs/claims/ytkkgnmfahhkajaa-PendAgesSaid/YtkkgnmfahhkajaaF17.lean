/- Layer 18: the law of any calls of a script. -/
import Derived.Test.YtkkgnmfahhkajaaF15
import Derived.Test.YtkkgnmfahhkajaaF16
import Derived.Test.YtkkgnmfahhkajaaF10
namespace Go.Proofs.Ytkkgnmfahhkajaa.Q
open Go.RowKit Go.Proofs.YtkkgnmfahhkajaaW.PrintWords Go.Proofs.YtkkgnmfahhkajaaW.PrintLast Go.Proofs.YtkkgnmfahhkajaaW.PrintMore
set_option linter.unusedVariables false
set_option linter.unusedSimpArgs false
set_option maxHeartbeats 8000000 in
set_option maxRecDepth 100000 in
theorem ages5 (w : World) (x : Int) (hx0 : 0 ≤ x) (hx1 : x < 256) (A0 : Option Addr) (c0 : Nat) (ops : List Oq) (hO : OpsAt w A0 ops) (hc : ops.length ≤ 9223372036854775807) : Calls Try.prog 5 #[.int .u8 x, .slice A0 ops.length c0] w fun e w' => e = .returned (.bool true) ∧ Below w.heap.size w w' := by
  obtain ⟨n, hn⟩ : ∃ n : Int, x % 4 + 1 = n := ⟨_, rfl⟩
  have hn1 : 1 ≤ n ∧ n ≤ 4 := by omega
  have e1 : IntKind.i64.wrap x = x := (i64_w _).trans (w64 (by omega) (by omega))
  have e2 : Int.tmod x 4 = x % 4 := Int.tmod_eq_emod_of_nonneg hx0
  have e3 : IntKind.i64.wrap (x % 4 + 1) = n := by rw [hn]; exact (i64_w _).trans (w64 (by omega) (by omega))
  go_enter Try.func5, Try.ntmps5
  go_wp2_with fail
  refine (awake13 _).mono ?_
  rintro e w1 ⟨rfl, hb1⟩
  go_wp2_with fail
  refine (new20 _ n n 1 0 [] (if_pos hn1)).mono ?_
  rintro e w2 ⟨A, c, rfl, hc_, hC, hF, hb2⟩
  go_wp2_with fail
  clear e1 e2 e3 hn hF hc_
  have S0 := fresh_PS (c := c) (vbelow_step hb1 hb2) hC hn1.1 hn1.2
  clear hC hb1 hb2
  obtain ⟨g, hg⟩ : ∃ g, g = w2.heap.size := ⟨_, rfl⟩
  try rw [← hg] at S0
  try rw [← hg]
  clear hg
  go_loopg [8, 9, 10] 61 (fun kq v8 v9 v10 wr => ∃ (i : Nat) (b last : Int) (l : List S42), v9 = .int .i64 last ∧ v10 = .int .i64 i ∧ i + kq = 61 ∧ PS w g wr n b last l v8)
  case atStart => exact ⟨0, 1, 0, [], rfl, rfl, rfl, S0⟩
  case round =>
    clear S0
    obtain ⟨i, b, last, l, rfl, rfl, hik, S⟩ := hrel
    obtain ⟨A8, c8, rfl, h8c, h8C⟩ := S.slice
    by_cases hlt : i < ops.length ∧ i < 60
    · obtain ⟨k1, rfl⟩ : ∃ k1, gk = k1 + 1 := ⟨gk - 1, by omega⟩
      obtain ⟨adO, o, ho_, hfine, eA0, C0, C1, C2, C3, C4, C5, C6, C7⟩ := hO.get i hlt.1
      subst eA0
      clear ho_
      have D0 := vcell S.low C0
      have D1 := vcell S.low C1
      have D2 := vcell S.low C2
      have D3 := vcell S.low C3
      have D4 := vcell S.low C4
      have D5 := vcell S.low C5
      have D6 := vcell S.low C6
      have D7 := vcell S.low C7
      clear C0 C1 C2 C3 C4 C5 C6 C7
      have hk0 : (0 : Int) ≤ (i : Int) := by omega
      have hkl : (i : Int) < (ops.length : Int) := by omega
      have hd1 : decide ((i : Int) < (ops.length : Int)) = true := decide_eq_true hkl
      have hd2 : decide ((i : Int) < 60) = true := decide_eq_true (by omega)
      go_upto_if 50 with fail
      have hgl : g ≠ wr.heap.size := by obtain ⟨_, _, h_, _⟩ := S.blk; exact Nat.ne_of_lt (heap_lt h_)
      have S1 := S.alloc (.cells #[.int .i64 o.kd, .int .u8 o.r.f0, .int .u8 o.r.f1, .int .u8 o.r.f2, .int .u32 o.r.f3, .int .u64 o.r.f4, .int .u8 o.k, .int .i64 o.nx] 53)
      have H1 := heap_alloc_new wr (.cells #[.int .i64 o.kd, .int .u8 o.r.f0, .int .u8 o.r.f1, .int .u8 o.r.f2, .int .u32 o.r.f3, .int .u64 o.r.f4, .int .u8 o.k, .int .i64 o.nx] 53)
      have hwh : w.heap.size ≤ wr.heap.size := S.low.size
      clear D0 D1 D2 D3 D4 D5 D6 D7 h8C S
      generalize hh : wr.heap.size = h at H1 hgl hwh ⊢
      generalize hWa : wr.alloc (.cells #[.int .i64 o.kd, .int .u8 o.r.f0, .int .u8 o.r.f1, .int .u8 o.r.f2, .int .u32 o.r.f3, .int .u64 o.r.f4, .int .u8 o.k, .int .i64 o.nx] 53) = wa at S1 H1 ⊢
      clear hWa hh
      go_cut [8, 9] (fun v8 v9 wx => ∃ (b last : Int) (l : List S42), v9 = .int .i64 last ∧ PS w g wx n b last l v8 ∧ wx.heap[h]? = some (.cells #[.int .i64 o.kd, .int .u8 o.r.f0, .int .u8 o.r.f1, .int .u8 o.r.f2, .int .u32 o.r.f3, .int .u64 o.r.f4, .int .u8 o.k, .int .i64 o.nx] 53 (0, 0)))
      case first =>
        by_cases hkd : o.kd = 1
        · have hk : o.kd = 1 := hkd
          have t1 : (o.kd == 1) = true := beq_iff_eq.2 hk
          obtain ⟨A, c, HP, hcl, hC, hF⟩ := id S1.blk
          obtain ⟨p0, p1, p2, pF⟩ := blk3 HP
          clear pF
          have D0 : wa.cell? ⟨h, 0, none⟩ = some (.int .i64 o.kd) := (blk_cell H1 0).trans rfl
          have D1 : wa.cell? ⟨h, 1, none⟩ = some (.int .u8 o.r.f0) := (blk_cell H1 1).trans rfl
          have D2 : wa.cell? ⟨h, 2, none⟩ = some (.int .u8 o.r.f1) := (blk_cell H1 2).trans rfl
          have D3 : wa.cell? ⟨h, 3, none⟩ = some (.int .u8 o.r.f2) := (blk_cell H1 3).trans rfl
          have D4 : wa.cell? ⟨h, 4, none⟩ = some (.int .u32 o.r.f3) := (blk_cell H1 4).trans rfl
          have D5 : wa.cell? ⟨h, 5, none⟩ = some (.int .u64 o.r.f4) := (blk_cell H1 5).trans rfl
          have D6 : wa.cell? ⟨h, 6, none⟩ = some (.int .u8 o.k) := (blk_cell H1 6).trans rfl
          have D7 : wa.cell? ⟨h, 7, none⟩ = some (.int .i64 o.nx) := (blk_cell H1 7).trans rfl
          have hroom := S1.room
          have hll : l.length ≤ 10 := by omega
          have hnl : ((nums l).length : Int) = (l.length : Int) := by rw [nums_len]
          have hgs := heap_lt HP
          have hhs := heap_lt H1
          go_wp2_with fail
          rcases add_tells (r := o.r) S1.chk with ⟨hf, hv⟩ | ⟨hf, e, he0, he1, hv⟩ | ⟨hf, z, hz, hchk, hv⟩
          · refine (add8 _ n b A c l o.r hC hcl hll _ _ _ _ _ hv).mono ?_
            rintro e' w3 ⟨A3, c3, rfl, hc3, hC3, hF3, hb3⟩
            have S3 := S1.below hb3
            have H3 := (hb3.block _ (heap_lt H1)).trans H1
            clear hC hF S1 H1 HP p0 p1 p2 D0 D1 D2 D3 D4 D5 D6 D7
            have t2 : (((nums l).length : Int) == n) = true := beq_iff_eq.2 (by omega)
            go_wp2_with fail
            go_meet
            exact ⟨b, last, l, rfl, S3.alloc _, blk_alloc H3 _⟩
          · refine (add8 _ n b A c l o.r hC hcl hll _ _ _ _ _ hv).mono ?_
            rintro e' w3 ⟨A3, c3, rfl, hc3, hC3, hF3, hb3⟩
            have S3 := S1.below hb3
            have H3 := (hb3.block _ (heap_lt H1)).trans H1
            clear hC hF S1 H1 HP p0 p1 p2 D0 D1 D2 D3 D4 D5 D6 D7
            have t2 : (((nums l).length : Int) == n) = false := beq_eq_false_iff_ne.2 (by omega)
            have t3 : (e == 181) = false := beq_eq_false_iff_ne.2 he1
            have t4 : (e == 0) = false := beq_eq_false_iff_ne.2 he0
            go_wp2_with fail
            go_meet
            exact ⟨b, last, l, rfl, S3.alloc _, blk_alloc H3 _⟩
          · obtain ⟨L, hL⟩ : ∃ L, L = l ++ [z] := ⟨_, rfl⟩
            rw [← hL] at hv hchk
            have HL := Lib.hid hL
            clear hL
            refine (add8 _ n b A c l o.r hC hcl hll _ _ _ _ _ hv).mono ?_
            rintro e' w3 ⟨A3, c3, rfl, hc3, hC3, hF3, hb3⟩
            have S3 := S1.below hb3
            have H3 := (hb3.block _ (heap_lt H1)).trans H1
            clear hC hF S1 H1 HP p0 p1 p2 D0 D1 D2 D3 D4 D5 D6 D7
            have t2 : (((nums l).length : Int) == n) = false := beq_eq_false_iff_ne.2 (by omega)
            have t5 : decide (b ≤ last) = false := decide_eq_false (by have := S3.last; omega)
            go_upto_region 20 with fail
            have S4 := S3.alloc (.cells #[.int .i64 n, .int .i64 (b + 1), .slice A3 L.length c3] 24)
            have H4 := blk_alloc H3 (.cells #[.int .i64 n, .int .i64 (b + 1), .slice A3 L.length c3] 24)
            have HC4 := Kd.C_alloc hC3 (.cells #[.int .i64 n, .int .i64 (b + 1), .slice A3 L.length c3] 24)
            have Hq := heap_alloc_new w3 (.cells #[.int .i64 n, .int .i64 (b + 1), .slice A3 L.length c3] 24)
            have hqg : w3.heap.size ≠ g := by have := hb3.size; omega
            have hF4 : ∀ ad, A3 = some ad → g ≠ ad.block := fun ad e_ => by have := hF3 ad e_; omega
            clear hC3 hF3 S3 H3 hgs hhs hb3
            obtain ⟨q, hq⟩ : ∃ q, q = w3.heap.size := ⟨_, rfl⟩
            rw [← hq] at Hq hqg ⊢
            generalize hWq : w3.alloc (.cells #[.int .i64 n, .int .i64 (b + 1), .slice A3 L.length c3] 24) = wq at S4 H4 HC4 Hq ⊢
            clear hWq hq
            obtain ⟨q0, q1, q2, qF⟩ := blk3 Hq
            clear qF
            refine start_ (n := 11) (S := fun w' => w'.cell? ⟨q, 0, none⟩ = some (.int .i64 n) ∧ w'.cell? ⟨q, 1, none⟩ = some (.int .i64 (b + 1)) ∧ w'.cell? ⟨q, 2, none⟩ = some (.slice A3 L.length c3)) (ds := []) #[false, false, false, false, false, false, false, false, false, false, false] (by kernel_rfl) rfl rfl ⟨q0, q1, q2⟩ (fun hHeld => ?_); refine with_tabW ages.tab20 ages.bits20 (fun HT_ HW_ => ?_)
            have S5 := S4.drew
            have HC5 := Kd.C_drew HC4
            have H5 := blk_drew H4
            clear S4 HC4 H4 q0 q1 q2
            generalize wq.drew = W0 at S5 HC5 H5 hHeld ⊢
            obtain ⟨s0, s1, s2⟩ := hHeld
            have hHeld := And.intro s0 (And.intro s1 s2)
            obtain ⟨_, _, HP5, _⟩ := id S5.blk
            have hgW := heap_lt HP5
            have hC8 := (Kd.R_reads' S5.own).2.2
            have hHB0 := Below.refl W0.heap.size W0
            refine pure_ (i := 2) (N := some 73) (v := ?_) (a' := ?_) #[false, false, true, false, false, false, false, false, false, false, false] rfl rfl (any_of HT_.out (by kernel_rfl)) (fun _ _ _ h => h) (Or.inl ⟨by rfl, ?_⟩) ?_ ?_
            rotate_left
            · intro w'
              go_simp
              with_reducible rfl
            rotate_left
            · simp only [Act.put, List.setIfInBounds_toArray, List.set_cons_zero, List.set_cons_succ, i64_w, i32_w]
              rfl
            refine pure_ (i := 4) (N := some 75) (v := ?_) (a' := ?_) #[false, false, true, false, true, false, false, false, false, false, false] rfl rfl (any_of HT_.out (by kernel_rfl)) (fun _ _ _ h => h) (Or.inl ⟨by rfl, ?_⟩) ?_ ?_
            rotate_left
            · intro w'
              go_simp
              with_reducible rfl
            rotate_left
            · simp only [Act.put, List.setIfInBounds_toArray, List.set_cons_zero, List.set_cons_succ, i64_w, i32_w]
              rfl
            refine pure_ (i := 7) (N := some 78) (v := ?_) (a' := ?_) #[false, false, true, false, true, false, false, true, false, false, false] rfl rfl (any_of HT_.out (by kernel_rfl)) (fun _ _ _ h => h) (Or.inl ⟨by rfl, ?_⟩) ?_ ?_
            rotate_left
            · intro w'
              go_simp
              with_reducible rfl
            rotate_left
            · simp only [Act.put, List.setIfInBounds_toArray, List.set_cons_zero, List.set_cons_succ, i64_w, i32_w]
              rfl
            refine take_ (i := 0) (N := some 71) (v := ?_) (a' := ?_) #[true, false, true, false, true, false, false, true, false, false, false] rfl rfl (take_ofW HT_.out HW_.out (by kernel_rfl)) (fun _ _ _ h => h) (Or.inl ⟨by rfl, ?_⟩) hHeld ?_ ?_
            rotate_left
            · rintro w' ⟨u0, u1, u2⟩
              go_simp
              with_reducible rfl
            rotate_left
            · simp only [Act.put, List.setIfInBounds_toArray, List.set_cons_zero, List.set_cons_succ, i64_w, i32_w]
              rfl
            refine join_ (σ := Value × Value × Value) 4 #[true, true, true, true, true, true, false, true, false, false, false] (fun s_ => [(72, s_.1), (74, s_.2.1), (76, s_.2.2)]) (fun s_ w' => Below W0.heap.size W0 w' ∧ ((Kd.int .i64).R 3 w' W0.heap.size (fun _ => True) s_.2.1 (nums l)) ∧ ((Kd.int .i64).R 3 w' W0.heap.size (fun _ => True) s_.2.2 [b])) ?_ ?_
            rotate_left
            · intro hCont
              refine two_ (i := 1) (j := 5) (Ni := some 72) (Nj := some 76) #[true, true, true, false, true, false, false, true, false, false, false] #[true, false, true, false, true, true, false, true, false, false, false] rfl rfl rfl rfl (two_of HT_.out (by kernel_rfl)) (by decide) (by decide) (fun K hK => ?_) (fun K hK => ?_)
              · refine Kd.R_lit_step (Kd.int .i64) (w0 := W0) W0.heap.size 3 ?hg (N := 72) ?hd (xs := ([] : List Int)) (inner := []) (ok := fun _ => True) (okp := fun _ => True) ?hr ?hp (fun _ hk => hk) trivial hHB0 hHB0.size (by simp) ?_; (case hd => rfl); (case hg => rfl); (case hr => first | (go_simp; done) | (go_simp; rfl)); (case hp => exact (Reps.none _ _))
                intro v72 w1_ ho1 hB1 hg_ hat_
                clear hg_ hat_
                refine hK.out _ _ ⟨vcell hB1 s0, vcell hB1 s1, vcell hB1 s2⟩ (fun hHeld => ?_)
                clear hK K
                refine norm_ (a' := ?_) ?_ ?_
                rotate_left
                · show Act.put _ (some 72) _ = _
                  simp only [Act.put, List.setIfInBounds_toArray, List.set_cons_zero, List.set_cons_succ, i64_w, i32_w]
                  rfl
                refine two_ (i := 3) (j := 5) (Ni := some 74) (Nj := some 76) #[true, true, true, true, true, false, false, true, false, false, false] #[true, true, true, false, true, true, false, true, false, false, false] rfl rfl rfl rfl (two_of HT_.out (by kernel_rfl)) (by decide) (by decide) (fun K hK => ?_) (fun K hK => ?_)
                · refine Kd.R_append_rows_step (Kd.int .i64) (w0 := W0) W0.heap.size (by rfl) (.tmp 72) (.tmp 73) 51 3 (.int .i64 0) 8 rfl Try.underlying51 ages_info3 rfl (by decide) (by omega) v72 [] (nums l) _ _ _ (fun _ => True) (fun _ => False) rfl rfl ?aO ?aR (fun _ _ h => h) (fun _ h => h.elim) ?aF ?aB ?aS ?aL ?_
                  (case aR => exact (Kd.C_below hC8 hB1))
                  (case aB => exact hB1)
                  (case aF => exact (fun _ _ => trivial))
                  (case aO => exact ho1)
                  (case aS => exact hB1.size)
                  (case aL => simp only [List.length_append, List.length_cons, List.length_nil, nums_len]; omega)
                  intro v74 w2_ ho2 hB2 hg2 hat2
                  refine hK.out _ _ ⟨vcell hB2 s0, vcell hB2 s1, vcell hB2 s2⟩ (fun hHeld => ?_)
                  clear hK K
                  refine norm_ (a' := ?_) ?_ ?_
                  rotate_left
                  · show Act.put _ (some 74) _ = _
                    simp only [Act.put, List.setIfInBounds_toArray, List.set_cons_zero, List.set_cons_succ, i64_w, i32_w]
                    rfl
                  refine one_ (i := 5) (N := some 76) #[true, true, true, true, true, true, false, true, false, false, false] rfl rfl (one_of HT_.out (by kernel_rfl)) (by decide) (fun K hK => ?_)
                  refine Kd.R_lit_step (Kd.int .i64) (w0 := W0) W0.heap.size 3 ?hg (N := 76) ?hd (xs := ([b] : List Int)) (inner := [.int .i64 b]) (ok := fun _ => True) (okp := fun _ => True) ?hr ?hp (fun _ hk => hk) trivial hB2 hB2.size (by simp) ?_; (case hd => rfl); (case hg => rfl); (case hr => first | (go_simp; done) | (go_simp; rfl)); (case hp => exact (Reps.one (show Kd.M (Kd.int .i64) _ _ _ b [.int .i64 b] from rfl) (Reps.none _ _)))
                  intro v76 w3_ ho3 hB3 hg_ hat_
                  refine hK.out _ _ ⟨vcell hB3 s0, vcell hB3 s1, vcell hB3 s2⟩ (fun hHeld => ?_)
                  clear hK K
                  refine norm_ (a' := ?_) ?_ ?_
                  rotate_left
                  · show Act.put _ (some 76) _ = _
                    simp only [Act.put, List.setIfInBounds_toArray, List.set_cons_zero, List.set_cons_succ, i64_w, i32_w]
                    rfl
                  have ho2' := R_kept ho2 hg_ (fun _ _ => by simp)
                  exact norm_ (by simp only [putAll, Act.put, List.setIfInBounds_toArray, List.set_cons_zero, List.set_cons_succ]) (hCont (v72, v74, v76) _ ⟨hB3, (by simpa using ho2'), ho3⟩)
                · refine Kd.R_lit_step (Kd.int .i64) (w0 := W0) W0.heap.size 3 ?hg (N := 76) ?hd (xs := ([b] : List Int)) (inner := [.int .i64 b]) (ok := fun _ => True) (okp := fun _ => True) ?hr ?hp (fun _ hk => hk) trivial hB1 hB1.size (by simp) ?_; (case hd => rfl); (case hg => rfl); (case hr => first | (go_simp; done) | (go_simp; rfl)); (case hp => exact (Reps.one (show Kd.M (Kd.int .i64) _ _ _ b [.int .i64 b] from rfl) (Reps.none _ _)))
                  intro v76 w2_ ho2 hB2 hg_ hat_
                  have ho1' := R_kept ho1 hg_ (fun _ _ => by simp)
                  have hne : v76.ownBlock ≠ v72.ownBlock := by obtain ⟨bk, e_, hle⟩ := hat_; intro h_; rw [e_] at h_; have := Kd.R_lt ho1 bk h_.symm; omega
                  have ho2' : (Kd.int .i64).R 3 w2_ W0.heap.size (fun k => some k ≠ v72.ownBlock) v76 [b] := ⟨fun k hk h_ => hne (hk.trans h_), ho2.2⟩
                  clear hg_ hat_
                  refine hK.out _ _ ⟨vcell hB2 s0, vcell hB2 s1, vcell hB2 s2⟩ (fun hHeld => ?_)
                  clear hK K
                  refine norm_ (a' := ?_) ?_ ?_
                  rotate_left
                  · show Act.put _ (some 76) _ = _
                    simp only [Act.put, List.setIfInBounds_toArray, List.set_cons_zero, List.set_cons_succ, i64_w, i32_w]
                    rfl
                  refine one_ (i := 3) (N := some 74) #[true, true, true, true, true, true, false, true, false, false, false] rfl rfl (one_of HT_.out (by kernel_rfl)) (by decide) (fun K hK => ?_)
                  refine Kd.R_append_rows_step (Kd.int .i64) (w0 := W0) W0.heap.size (by rfl) (.tmp 72) (.tmp 73) 51 3 (.int .i64 0) 8 rfl Try.underlying51 ages_info3 rfl (by decide) (by omega) v72 [] (nums l) _ _ _ (fun _ => True) (fun _ => False) rfl rfl ?aO ?aR (fun _ _ h => h) (fun _ h => h.elim) ?aF ?aB ?aS ?aL ?_
                  (case aR => exact (Kd.C_below hC8 hB2))
                  (case aB => exact hB2)
                  (case aF => exact (fun _ _ => trivial))
                  (case aO => exact ho1')
                  (case aS => exact hB2.size)
                  (case aL => simp only [List.length_append, List.length_cons, List.length_nil, nums_len]; omega)
                  intro v74 w3_ ho3 hB3 hg3 hat3
                  refine hK.out _ _ ⟨vcell hB3 s0, vcell hB3 s1, vcell hB3 s2⟩ (fun hHeld => ?_)
                  clear hK K
                  refine norm_ (a' := ?_) ?_ ?_
                  rotate_left
                  · show Act.put _ (some 74) _ = _
                    simp only [Act.put, List.setIfInBounds_toArray, List.set_cons_zero, List.set_cons_succ, i64_w, i32_w]
                    rfl
                  have ho4 := Kd.R_mono (R_kept ho2' hg3 (fun _ h => h)) (fun _ _ => trivial)
                  exact norm_ (by simp only [putAll, Act.put, List.setIfInBounds_toArray, List.set_cons_zero, List.set_cons_succ]) (hCont (v72, v74, v76) _ ⟨hB3, (by simpa using ho3), ho4⟩)
              · refine Kd.R_lit_step (Kd.int .i64) (w0 := W0) W0.heap.size 3 ?hg (N := 76) ?hd (xs := ([b] : List Int)) (inner := [.int .i64 b]) (ok := fun _ => True) (okp := fun _ => True) ?hr ?hp (fun _ hk => hk) trivial hHB0 hHB0.size (by simp) ?_; (case hd => rfl); (case hg => rfl); (case hr => first | (go_simp; done) | (go_simp; rfl)); (case hp => exact (Reps.one (show Kd.M (Kd.int .i64) _ _ _ b [.int .i64 b] from rfl) (Reps.none _ _)))
                intro v76 w1_ ho1 hB1 hg_ hat_
                clear hg_ hat_
                refine hK.out _ _ ⟨vcell hB1 s0, vcell hB1 s1, vcell hB1 s2⟩ (fun hHeld => ?_)
                clear hK K
                refine norm_ (a' := ?_) ?_ ?_
                rotate_left
                · show Act.put _ (some 76) _ = _
                  simp only [Act.put, List.setIfInBounds_toArray, List.set_cons_zero, List.set_cons_succ, i64_w, i32_w]
                  rfl
                refine one_ (i := 1) (N := some 72) #[true, true, true, false, true, true, false, true, false, false, false] rfl rfl (one_of HT_.out (by kernel_rfl)) (by decide) (fun K hK => ?_)
                refine Kd.R_lit_step (Kd.int .i64) (w0 := W0) W0.heap.size 3 ?hg (N := 72) ?hd (xs := ([] : List Int)) (inner := []) (ok := fun _ => True) (okp := fun _ => True) ?hr ?hp (fun _ hk => hk) trivial hB1 hB1.size (by simp) ?_; (case hd => rfl); (case hg => rfl); (case hr => first | (go_simp; done) | (go_simp; rfl)); (case hp => exact (Reps.none _ _))
                intro v72 w2_ ho2 hB2 hg_ hat_
                have hne : v76.ownBlock ≠ v72.ownBlock := by obtain ⟨bk, e_, hle⟩ := hat_; intro h_; rw [e_] at h_; have := Kd.R_lt ho1 bk h_; omega
                have ho1g := R_kept ho1 hg_ (fun _ _ => by simp)
                have ho1' : (Kd.int .i64).R 3 w2_ W0.heap.size (fun k => some k ≠ v72.ownBlock) v76 [b] := ⟨fun k hk h_ => hne (hk.trans h_), ho1g.2⟩
                clear hg_ hat_
                refine hK.out _ _ ⟨vcell hB2 s0, vcell hB2 s1, vcell hB2 s2⟩ (fun hHeld => ?_)
                clear hK K
                refine norm_ (a' := ?_) ?_ ?_
                rotate_left
                · show Act.put _ (some 72) _ = _
                  simp only [Act.put, List.setIfInBounds_toArray, List.set_cons_zero, List.set_cons_succ, i64_w, i32_w]
                  rfl
                refine one_ (i := 3) (N := some 74) #[true, true, true, true, true, true, false, true, false, false, false] rfl rfl (one_of HT_.out (by kernel_rfl)) (by decide) (fun K hK => ?_)
                refine Kd.R_append_rows_step (Kd.int .i64) (w0 := W0) W0.heap.size (by rfl) (.tmp 72) (.tmp 73) 51 3 (.int .i64 0) 8 rfl Try.underlying51 ages_info3 rfl (by decide) (by omega) v72 [] (nums l) _ _ _ (fun _ => True) (fun _ => False) rfl rfl ?aO ?aR (fun _ _ h => h) (fun _ h => h.elim) ?aF ?aB ?aS ?aL ?_
                (case aR => exact (Kd.C_below hC8 hB2))
                (case aB => exact hB2)
                (case aF => exact (fun _ _ => trivial))
                (case aO => exact ho2)
                (case aS => exact hB2.size)
                (case aL => simp only [List.length_append, List.length_cons, List.length_nil, nums_len]; omega)
                intro v74 w3_ ho3 hB3 hg3 hat3
                refine hK.out _ _ ⟨vcell hB3 s0, vcell hB3 s1, vcell hB3 s2⟩ (fun hHeld => ?_)
                clear hK K
                refine norm_ (a' := ?_) ?_ ?_
                rotate_left
                · show Act.put _ (some 74) _ = _
                  simp only [Act.put, List.setIfInBounds_toArray, List.set_cons_zero, List.set_cons_succ, i64_w, i32_w]
                  rfl
                have ho4 := Kd.R_mono (R_kept ho1' hg3 (fun _ h => h)) (fun _ _ => trivial)
                exact norm_ (by simp only [putAll, Act.put, List.setIfInBounds_toArray, List.set_cons_zero, List.set_cons_succ]) (hCont (v72, v74, v76) _ ⟨hB3, (by simpa using ho3), ho4⟩)
            rintro ⟨v72, v74, v76⟩ W4 ⟨hB4, ho74, ho76⟩
            dsimp only at ho74 ho76
            have hHeld := And.intro (vcell hB4 s0) (And.intro (vcell hB4 s1) (vcell hB4 s2))
            obtain ⟨A76, c76, e76⟩ := Kd.R_slice ho76
            subst e76
            refine norm_ (a' := ?_) ?_ ?_
            rotate_left
            · simp only [putAll, Act.put, List.setIfInBounds_toArray, List.set_cons_zero, List.set_cons_succ]
              rfl
            refine one_ (i := 6) (N := some 77) #[true, true, true, true, true, true, true, true, false, false, false] rfl rfl (one_of HT_.out (by kernel_rfl)) (by decide) (fun K hK => ?_)
            refine Kd.R_append_rows_step (Kd.int .i64) (w0 := W0) W0.heap.size (by rfl) (.tmp 74) (.tmp 76) 51 3 (.int .i64 0) 8 rfl Try.underlying51 ages_info3 rfl (by decide) (by omega) v74 (nums l) [b] _ _ _ (fun _ => True) (fun _ => False) rfl rfl ?aO ?aR (fun _ _ h => h) (fun _ h => h.elim) ?aF ?aB ?aS ?aL ?_
            (case aR => exact (Kd.R_reads' ho76).2.2)
            (case aB => exact hB4)
            (case aF => exact (fun _ _ => trivial))
            (case aO => exact ho74)
            (case aS => exact hB4.size)
            (case aL => simp only [List.length_append, List.length_cons, List.length_nil, nums_len]; omega)
            intro v77 w5_ ho77 hB5 hg5 hat5
            refine hK.out _ _ ⟨vcell hB5 s0, vcell hB5 s1, vcell hB5 s2⟩ (fun hHeld => ?_)
            clear hK K
            refine norm_ (a' := ?_) ?_ ?_
            rotate_left
            · show Act.put _ (some 77) _ = _
              simp only [Act.put, List.setIfInBounds_toArray, List.set_cons_zero, List.set_cons_succ, i64_w, i32_w]
              rfl
            refine one_ (i := 8) (N := none) #[true, true, true, true, true, true, true, true, true, false, false] rfl rfl (one_of HT_.out (by kernel_rfl)) (by decide) (fun K hK => ?_)
            have HP6 := (hB5.block _ (heap_lt HP5)).trans HP5
            obtain ⟨p0, p1, p2, pF⟩ := blk3 HP6
            have pf0 := pF 0
            have pf1 := pF 1
            have pf2 := pF 2
            clear pF
            have H6 := (hB5.block _ (heap_lt H5)).trans H5
            refine skip_ (w1 := ?_) (by rfl) rfl ?_ ?_
            rotate_left
            · go_simp
              rfl
            refine hK.out _ _ ⟨((cell_far (p := ⟨g, _, none⟩) hqg _).trans ((cell_far (p := ⟨g, _, none⟩) hqg _).trans ((cell_far (p := ⟨g, _, none⟩) hqg _).trans hHeld.1))), ((cell_far (p := ⟨g, _, none⟩) hqg _).trans ((cell_far (p := ⟨g, _, none⟩) hqg _).trans ((cell_far (p := ⟨g, _, none⟩) hqg _).trans hHeld.2.1))), ((cell_far (p := ⟨g, _, none⟩) hqg _).trans ((cell_far (p := ⟨g, _, none⟩) hqg _).trans ((cell_far (p := ⟨g, _, none⟩) hqg _).trans hHeld.2.2)))⟩ (fun hHeld => ?_)
            clear hK K
            refine pure_ (i := 9) (N := some 8) (v := ?_) (a' := ?_) #[true, true, true, true, true, true, true, true, true, true, false] rfl rfl (any_of HT_.out (by kernel_rfl)) (fun _ _ _ h => h) (Or.inl ⟨by rfl, ?_⟩) ?_ ?_
            rotate_left
            · intro w'
              go_simp
              with_reducible rfl
            rotate_left
            · simp only [Act.put, List.setIfInBounds_toArray, List.set_cons_zero, List.set_cons_succ, i64_w, i32_w]
              rfl
            refine pure_ (i := 10) (N := some 9) (v := ?_) (a' := ?_) #[true, true, true, true, true, true, true, true, true, true, true] rfl rfl (any_of HT_.out (by kernel_rfl)) (fun _ _ _ h => h) (Or.inl ⟨by rfl, ?_⟩) ?_ ?_
            rotate_left
            · intro w'
              go_simp
              with_reducible rfl
            rotate_left
            · simp only [Act.put, List.setIfInBounds_toArray, List.set_cons_zero, List.set_cons_succ, i64_w, i32_w]
              rfl
            refine done_ (done_of HT_.out (by kernel_rfl)) ?_
            try go_wp2
            go_meet
            have hl6 : nums L = nums l ++ [b] := by rw [HL.out]; simp [nums, hz]
            have HB6 := vbelow_step S5.low hB5
            refine ⟨b + 1, b, L, rfl, PS.put HP6 HB6 S5.gw hc3 (Kd.C_below HC5 hB5) (fun _ ad e_ => hF4 ad e_) (by rw [hl6]; exact R_fresh ho77 hgW S5.low.size) hchk (by omega), ?_⟩
            exact blk_far (p := ⟨g, 2, none⟩) (blk_far (p := ⟨g, 1, none⟩) (blk_far (p := ⟨g, 0, none⟩) H6 hgl.symm _) hgl.symm _) hgl.symm _
        · have t1 : (o.kd == 1) = false := beq_eq_false_iff_ne.2 hkd
          go_wp2_with fail
          go_meet
          exact ⟨b, last, l, rfl, S1, H1⟩
      case rest =>
        clear S1 H1
        obtain ⟨b, last, l, rfl, S1, H1⟩ := hcut
        rename World => wb
        obtain ⟨A8, c8, rfl, h8c, h8C⟩ := S1.slice
        have hnl := Lib.hid (nums_len l)
        have hroom := Lib.hid S1.room
        go_upto_region 21 with fail
        go_cut [86] (fun v86 wx => v86 = .bool (decide (o.kd ≠ 1) && decide (0 < l.length)) ∧ wx = wb)
        case first =>
          have D0 : wb.cell? ⟨h, 0, none⟩ = some (.int .i64 o.kd) := (blk_cell H1 0).trans rfl
          by_cases hkd : o.kd = 1
          · have t1 : (o.kd != 1) = false := by rw [hkd]; rfl
            go_wp2_with fail
            go_meet
            exact ⟨by rw [show decide (o.kd ≠ 1) = false from decide_eq_false (fun h_ => h_ hkd)]; rfl, rfl⟩
          · have t1 : (o.kd != 1) = true := bne_iff_ne.2 hkd
            by_cases hl0 : 0 < l.length
            · have t2 : decide (0 < (nums l).length) = true := decide_eq_true (by rw [hnl.out]; exact hl0)
              go_wp2_with fail
              go_meet
              exact ⟨by rw [show decide (o.kd ≠ 1) = true from decide_eq_true hkd, show decide (0 < l.length) = true from decide_eq_true hl0]; rfl, rfl⟩
            · have t2 : decide (0 < (nums l).length) = false := decide_eq_false (by rw [hnl.out]; exact hl0)
              go_wp2_with fail
              go_meet
              exact ⟨by rw [show decide (o.kd ≠ 1) = true from decide_eq_true hkd, show decide (0 < l.length) = false from decide_eq_false hl0]; rfl, rfl⟩
        case rest =>
          obtain ⟨rfl, rfl⟩ := hcut
          rename World => wb
          go_upto_if 86 with fail
          go_cut [8] (fun v8 wx => ∃ (b : Int) (l : List S42), PS w g wx n b last l v8)
          case first =>
            by_cases hgo : o.kd ≠ 1 ∧ 0 < l.length
            · have t0 : (decide (o.kd ≠ 1) && decide (0 < l.length)) = true := by rw [decide_eq_true hgo.1, decide_eq_true hgo.2]; rfl
              rw [t0]
              obtain ⟨k, hk⟩ : ∃ k : Nat, (k : Int) = o.k % (l.length : Int) := ⟨(o.k % (l.length : Int)).toNat, Int.toNat_of_nonneg (Int.emod_nonneg _ (by omega))⟩
              have hkl' : k < l.length := by have := Int.emod_lt_of_pos o.k (show (0 : Int) < (l.length : Int) by omega); omega
              have e1 : IntKind.i64.wrap o.k = o.k := (i64_w _).trans (w64 (by have := hfine.1; omega) (by have := hfine.2; omega))
              have e2 : Int.tmod o.k ((nums l).length : Int) = (k : Int) := by rw [hnl.out, hk]; exact Int.tmod_eq_emod_of_nonneg hfine.1
              have t3 : (((nums l).length : Int) == 0) = false := beq_eq_false_iff_ne.2 (by rw [hnl.out]; omega)
              have t4 : ((nums l).length : Int) ≠ 0 := by rw [hnl.out]; omega
              have D6 : wb.cell? ⟨h, 6, none⟩ = some (.int .u8 o.k) := (blk_cell H1 6).trans rfl
              have hkh := Lib.hid hk
              clear hk
              go_upto_region 23 with fail
              obtain ⟨ad8, eA8, hE⟩ := Kd.at_int h8C (k : Int) (by omega) (by rw [nums_len]; omega)
              subst eA8
              obtain ⟨y, hy⟩ : ∃ y, y = l[k] := ⟨_, rfl⟩
              have hE2 : wb.cell? (ad8.add k) = some (.int .i64 y.f0) := by rw [hy, ← nums_rd hkl']; exact hE
              clear hE
              have hget : getV n b l y.f0 = (y, true) := by rw [hy]; exact get_tells S1.chk k hkl'
              have hk0 : (0 : Int) ≤ (k : Int) := by omega
              have hk1 : (k : Int) < ((nums l).length : Int) := by rw [hnl.out]; omega
              have hyh := Lib.hid hy
              clear hy
              obtain ⟨A, c, HP, hcl, hC, hF⟩ := id S1.blk
              obtain ⟨p0, p1, p2, pF⟩ := blk3 HP
              clear pF
              have hll : l.length ≤ 10 := by have := hroom.out; omega
              have hgs := heap_lt HP
              have hhs := heap_lt H1
              go_cut [16, 17] (fun v16 v17 wx => ∃ q : Nat, v16 = .pointer (some ⟨q, 0, none⟩) ∧ v17 = .bool true ∧ wb.heap.size ≤ q ∧ Below wb.heap.size wb wx ∧ wx.heap[q]? = some (.cells #[.int .i64 y.f0, .int .u8 y.f1.f0, .int .u8 y.f1.f1, .int .u8 y.f1.f2, .int .u32 y.f1.f3, .int .u64 y.f1.f4, .int .i64 y.f2, .int .i64 y.f3, .int .i64 y.f4, .int .u64 y.f5.f0, .int .u64 y.f5.f1, .int .u64 y.f6] 42 (0, 0)))
              case first =>
                have ad_ := vcell_alloc (W := wb.drew) hE2 (.cells #[.int .i64 0, .int .u8 0, .int .u8 0, .int .u8 0, .int .u32 0, .int .u64 0, .int .i64 0, .int .i64 0, .int .i64 0, .int .u64 0, .int .u64 0, .int .u64 0] 42)
                have ae_ := vcell_alloc hE2 (.cells #[.int .i64 0, .int .u8 0, .int .u8 0, .int .u8 0, .int .u32 0, .int .u64 0, .int .i64 0, .int .i64 0, .int .i64 0, .int .u64 0, .int .u64 0, .int .u64 0] 42)
                have a0_ := vcell_alloc (W := wb.drew) p0 (.cells #[.int .i64 0, .int .u8 0, .int .u8 0, .int .u8 0, .int .u32 0, .int .u64 0, .int .i64 0, .int .i64 0, .int .i64 0, .int .u64 0, .int .u64 0, .int .u64 0] 42)
                have a1_ := vcell_alloc (W := wb.drew) p1 (.cells #[.int .i64 0, .int .u8 0, .int .u8 0, .int .u8 0, .int .u32 0, .int .u64 0, .int .i64 0, .int .i64 0, .int .i64 0, .int .u64 0, .int .u64 0, .int .u64 0] 42)
                have a2_ := vcell_alloc (W := wb.drew) p2 (.cells #[.int .i64 0, .int .u8 0, .int .u8 0, .int .u8 0, .int .u32 0, .int .u64 0, .int .i64 0, .int .i64 0, .int .i64 0, .int .u64 0, .int .u64 0, .int .u64 0] 42)
                have b0_ := vcell_alloc p0 (.cells #[.int .i64 0, .int .u8 0, .int .u8 0, .int .u8 0, .int .u32 0, .int .u64 0, .int .i64 0, .int .i64 0, .int .i64 0, .int .u64 0, .int .u64 0, .int .u64 0] 42)
                have b1_ := vcell_alloc p1 (.cells #[.int .i64 0, .int .u8 0, .int .u8 0, .int .u8 0, .int .u32 0, .int .u64 0, .int .i64 0, .int .i64 0, .int .i64 0, .int .u64 0, .int .u64 0, .int .u64 0] 42)
                have b2_ := vcell_alloc p2 (.cells #[.int .i64 0, .int .u8 0, .int .u8 0, .int .u8 0, .int .u32 0, .int .u64 0, .int .i64 0, .int .i64 0, .int .i64 0, .int .u64 0, .int .u64 0, .int .u64 0] 42)
                have hEl := World.block_lt_of_cell? _ _ hE2
                go_region_with (go_at_call 14; refine (get14 _ n b A c l y.f0 (by first | exact Kd.C_drew hC | exact Kd.C_alloc (Kd.C_drew hC) _ | exact Kd.C_drew (Kd.C_alloc hC _) | exact hC) hcl hll y true hget).mono ?_; rintro e' wk ⟨rfl, hbk⟩; have hzk := hbk.size; (try simp only [World.size_alloc, World.size_drew] at hzk); have BW : Below wb.heap.size wb wk := vbelow_step (by repeat (first | (with_reducible exact Below.refl _ _) | (with_reducible refine vbelow_alloc ?_ _) | (with_reducible refine vbelow_drew ?_))) hbk; (try (have HQk : wk.heap[wb.heap.size]? = some (.cells #[.int .i64 0, .int .u8 0, .int .u8 0, .int .u8 0, .int .u32 0, .int .u64 0, .int .i64 0, .int .i64 0, .int .i64 0, .int .u64 0, .int .u64 0, .int .u64 0] 42 (0, 0)) := (hbk.block _ (by simp only [World.size_alloc, World.size_drew]; omega)).trans (heap_alloc_new wb.drew _); obtain ⟨z0, z1, z2, z3, z4, z5, z6, z7, z8, z9, z10, z11, zF⟩ := blk12 HQk; have zf0 := zF 0; have zf1 := zF 1; have zf2 := zF 2; have zf3 := zF 3; have zf4 := zF 4; have zf5 := zF 5; have zf6 := zF 6; have zf7 := zF 7; have zf8 := zF 8; have zf9 := zF 9; have zf10 := zF 10; have zf11 := zF 11; clear zF)))
                all_goals (try go_wp2_with fail)
                all_goals (go_meet; first | (have hq_ := HQk; exact ⟨wb.heap.size, rfl, rfl, Nat.le_refl _, (vbelow_set (vbelow_set (vbelow_set (vbelow_set (vbelow_set (vbelow_set (vbelow_set (vbelow_set (vbelow_set (vbelow_set (vbelow_set (vbelow_set BW (Nat.le_refl _)) (Nat.le_refl _)) (Nat.le_refl _)) (Nat.le_refl _)) (Nat.le_refl _)) (Nat.le_refl _)) (Nat.le_refl _)) (Nat.le_refl _)) (Nat.le_refl _)) (Nat.le_refl _)) (Nat.le_refl _)) (Nat.le_refl _)), put12 HQk _ _ _ _ _ _ _ _ _ _ _ _⟩) | exact ⟨wk.heap.size, rfl, rfl, BW.size, vbelow_alloc BW _, heap_alloc_new wk _⟩)
              case rest =>
                clear p0 p1 p2 hE2 hgs hhs
                obtain ⟨q, rfl, rfl, hq, HBc, HQ⟩ := hcut
                rename World => wc
                have S2 := S1.below HBc
                have H2 := (HBc.block _ (heap_lt H1)).trans H1
                have hgb : g < wb.heap.size := by obtain ⟨_, _, h_, _⟩ := id S1.blk; exact heap_lt h_
                have hhb := heap_lt H1
                have hqg : q ≠ g := by omega
                have hqh : q ≠ h := by omega
                have D7 : wc.cell? ⟨h, 7, none⟩ = some (.int .i64 o.nx) := (blk_cell H2 7).trans rfl
                obtain ⟨z0, z1, z2, z3, z4, z5, z6, z7, z8, z9, z10, z11, zF⟩ := blk12 HQ
                have zf6 := zF 6
                clear zF
                have HP2 := (HBc.block _ hgb).trans HP
                obtain ⟨p0, p1, p2, pF⟩ := blk3 HP2
                clear pF
                go_wp2_with fail
                have HQ3 : (wc.setCell ⟨q, 6, none⟩ (.int .i64 o.nx)).heap[q]? = some (.cells #[.int .i64 y.f0, .int .u8 y.f1.f0, .int .u8 y.f1.f1, .int .u8 y.f1.f2, .int .u32 y.f1.f3, .int .u64 y.f1.f4, .int .i64 o.nx, .int .i64 y.f3, .int .i64 y.f4, .int .u64 y.f5.f0, .int .u64 y.f5.f1, .int .u64 y.f6] 42 (0, 0)) := blk_put (cs := #[.int .i64 y.f0, .int .u8 y.f1.f0, .int .u8 y.f1.f1, .int .u8 y.f1.f2, .int .u32 y.f1.f3, .int .u64 y.f1.f4, .int .i64 y.f2, .int .i64 y.f3, .int .i64 y.f4, .int .u64 y.f5.f0, .int .u64 y.f5.f1, .int .u64 y.f6]) HQ 6 _ (by simp only [List.setIfInBounds_toArray, List.set_cons_zero, List.set_cons_succ])
                have HBd : Below wb.heap.size wb (wc.setCell ⟨q, 6, none⟩ (.int .i64 o.nx)) := vbelow_set HBc hq
                have S3 := S1.below HBd
                have H3 := (HBd.block _ hhb).trans H1
                clear z0 z1 z2 z3 z4 z5 z6 z7 z8 z9 z10 z11 zf6 p0 p1 p2 D7 S2 H2 HQ HP2
                generalize hWd : (wc.setCell ⟨q, 6, none⟩ (.int .i64 o.nx)) = wd at HQ3 HBd S3 H3 ⊢
                clear hWd HBc
                have hC3 := Kd.C_below hC HBd
                have hvs := set_tells S1.chk k hkl' ⟨y.f0, y.f1, o.nx, y.f3, y.f4, y.f5, y.f6⟩ (by rw [← hyh.out])
                rcases hvs with ⟨e, he0, hv⟩ | ⟨h7, hchk, hv⟩ | ⟨h7, hchk, hv⟩
                · refine (set16 _ n b A c l ⟨y.f0, y.f1, o.nx, y.f3, y.f4, y.f5, y.f6⟩ hC3 hcl hll _ _ _ _ hv).mono ?_
                  rintro e' w5 ⟨A5, c5, rfl, hc5, hC5, hF5, hb5⟩
                  have S5 := S3.below hb5
                  have H5 := (hb5.block _ (heap_lt H3)).trans H3
                  have hgd : g < wd.heap.size := by obtain ⟨_, _, h_, _⟩ := id S3.blk; exact heap_lt h_
                  have hgw5 : g ≠ w5.heap.size := by have := hb5.size; omega
                  have hgw5' := hgw5.symm
                  have D7 : w5.cell? ⟨h, 7, none⟩ = some (.int .i64 o.nx) := (blk_cell H5 7).trans rfl
                  have hhw5 := heap_lt H5
                  have t7 : (e == 0) = false := beq_eq_false_iff_ne.2 he0
                  go_wp2_with fail
                  go_meet
                  exact ⟨b, l, S5.alloc _⟩
                · obtain ⟨L, hL⟩ : ∃ L, L = l.take k ++ l.drop (k + 1) := ⟨_, rfl⟩
                  rw [← hL] at hv hchk
                  have HL := Lib.hid hL
                  clear hL
                  have h7 : o.nx = 7 := h7
                  refine (set16 _ n b A c l ⟨y.f0, y.f1, o.nx, y.f3, y.f4, y.f5, y.f6⟩ hC3 hcl hll _ _ _ _ hv).mono ?_
                  rintro e' w5 ⟨A5, c5, rfl, hc5, hC5, hF5, hb5⟩
                  have S5 := S3.below hb5
                  have H5 := (hb5.block _ (heap_lt H3)).trans H3
                  have hgd : g < wd.heap.size := by obtain ⟨_, _, h_, _⟩ := id S3.blk; exact heap_lt h_
                  have hgw5 : g ≠ w5.heap.size := by have := hb5.size; omega
                  have hgw5' := hgw5.symm
                  have D7 : w5.cell? ⟨h, 7, none⟩ = some (.int .i64 o.nx) := (blk_cell H5 7).trans rfl
                  have hhw5 := heap_lt H5
                  have t7 : (o.nx == 7) = true := beq_iff_eq.2 h7
                  obtain ⟨Ag, cg, HPg, _, _, _⟩ := id S5.blk
                  have HPa := blk_alloc HPg (.cells #[.int .i64 n, .int .i64 b, .slice A5 L.length c5] 24)
                  obtain ⟨pa0, pa1, pa2, paF⟩ := blk3 HPa
                  have paf0 := paF 0
                  have paf1 := paF 1
                  have paf2 := paF 2
                  clear paF
                  obtain ⟨p0, p1, p2, pF⟩ := blk3 HPg
                  have pf0 := pF 0
                  have pf1 := pF 1
                  have pf2 := pF 2
                  clear pF
                  have hgl5 := heap_lt HPg
                  go_upto_region 31 with fail
                  have hF6 : ∀ ad, A5 = some ad → g ≠ ad.block := fun ad e_ => by have := hF5 ad e_; omega
                  have HP6 := blk_alloc (put3 HPg (.int .i64 n) (.int .i64 b) (.slice A5 L.length c5)) (.cells #[.int .i64 n, .int .i64 b, .slice A5 L.length c5] 24)
                  have hC6 := Kd.C_alloc (C_far0 (p := ⟨g, 2, none⟩) (C_far0 (p := ⟨g, 1, none⟩) (C_far0 (p := ⟨g, 0, none⟩) hC5 (fun _ => hF6) (.int .i64 n)) (fun _ => hF6) (.int .i64 b)) (fun _ => hF6) (.slice A5 L.length c5)) (.cells #[.int .i64 n, .int .i64 b, .slice A5 L.length c5] 24)
                  have hO6 := Kd.R_alloc (Kd.R_far (p := ⟨g, 2, none⟩) (Kd.R_far (p := ⟨g, 1, none⟩) (Kd.R_far (p := ⟨g, 0, none⟩) S5.own (fun _ h => h) (.int .i64 n)) (fun _ h => h) (.int .i64 b)) (fun _ h => h) (.slice A5 L.length c5)) (.cells #[.int .i64 n, .int .i64 b, .slice A5 L.length c5] 24)
                  have HB6 : Below w.heap.size w ((((w5.setCell ⟨g, 0, none⟩ (.int .i64 n)).setCell ⟨g, 1, none⟩ (.int .i64 b)).setCell ⟨g, 2, none⟩ (.slice A5 L.length c5)).alloc (.cells #[.int .i64 n, .int .i64 b, .slice A5 L.length c5] 24)) := vbelow_alloc (vbelow_set (vbelow_set (vbelow_set S5.low S5.gw) S5.gw) S5.gw) _
                  generalize hWq : ((((w5.setCell ⟨g, 0, none⟩ (.int .i64 n)).setCell ⟨g, 1, none⟩ (.int .i64 b)).setCell ⟨g, 2, none⟩ (.slice A5 L.length c5)).alloc (.cells #[.int .i64 n, .int .i64 b, .slice A5 L.length c5] 24)) = wq at HP6 hC6 hO6 HB6 ⊢
                  have h8D := (Kd.R_reads' hO6).2.2
                  clear hWq p0 p1 p2 pf0 pf1 pf2 pa0 pa1 pa2 paf0 paf1 paf2 D7 HPa HPg hC5 hF5 S5 H5
                  obtain ⟨i0, hi0, _, hsz, _⟩ := info_parts ages_info3
                  obtain ⟨m, hm⟩ : ∃ m : Nat, m = k + 1 := ⟨_, rfl⟩
                  have e5 : IntKind.i64.wrap ((k : Int) + 1) = (m : Int) := (i64_w _).trans ((w64 (by omega) (by omega)).trans (by omega))
                  have q1 : (k : Int) ≤ ((nums l).length : Int) := by rw [hnl.out]; omega
                  have q2 : (m : Int) ≤ ((nums l).length : Int) := by rw [hnl.out]; omega
                  have q3 : (0 : Int) ≤ (m : Int) := by omega
                  obtain ⟨T1, hT1⟩ : ∃ T, T = (nums l).take k := ⟨_, rfl⟩
                  obtain ⟨T2, hT2⟩ : ∃ T, T = (nums l).drop m := ⟨_, rfl⟩
                  have hl1 : T1.length = (k : Int).toNat := by rw [hT1, List.length_take, hnl.out, Int.toNat_natCast]; omega
                  have hl2 : T2.length = (nums l).length - (m : Int).toNat := by rw [hT2, List.length_drop, Int.toNat_natCast]
                  have hcu1 := cut_to (P := Try.prog) 51 3 .i64 Try.underlying51 hi0 (some ad8) (nums l).length c8 (k : Int) hk0 q1 h8c
                  have hcu2 := cut_from (P := Try.prog) 51 3 .i64 Try.underlying51 hi0 1 hsz (some ad8) (nums l).length c8 (m : Int) q3 q2
                  have hd1 := Kd.C_take (m := k) h8D (by rw [hnl.out]; omega)
                  have hd2 := Kd.C_drop (m := m) h8D (by rw [hnl.out]; omega) h8c
                  rw [← hT1] at hd1
                  rw [← hT2] at hd2
                  obtain ⟨A2_, hA2⟩ : ∃ A1, A1 = (if c8 = ((m : Int)).toNat then (some ad8) else ((some ad8) : Option Addr).map (·.add (((m : Int)).toNat * 1))) := ⟨_, rfl⟩
                  obtain ⟨c2_, hc2⟩ : ∃ c1, c1 = c8 - ((m : Int)).toNat := ⟨_, rfl⟩
                  replace hd2 : Kd.C (Kd.int .i64) wq A2_ T2.length T2 := by rw [hA2, Int.toNat_natCast]; exact hd2
                  rw [← hl1] at hcu1
                  rw [← hl2, ← hA2, ← hc2] at hcu2
                  have hl1h := Lib.hid hl1
                  have hl2h := Lib.hid hl2
                  have hTh1 := Lib.hid hT1
                  have hTh2 := Lib.hid hT2
                  have hmh := Lib.hid hm
                  clear hl1 hl2 hT1 hT2 hA2 hc2 hi0 hsz hm
                  refine start_ (n := 11) (S := fun w' => True) (ds := []) #[false, false, false, false, false, false, false, false, false, false, false] (by kernel_rfl) rfl rfl trivial (fun hHeld => ?_); refine with_tabW ages.tab31 ages.bits31 (fun HT_ HW_ => ?_)
                  have hd1 := Kd.C_drew hd1
                  have hd2 := Kd.C_drew hd2
                  have S5 := vbelow_drew HB6
                  have HP7 := blk_drew HP6
                  have hC7 := Kd.C_drew hC6
                  generalize wq.drew = W0 at hd1 hd2 S5 HP7 hC7 ⊢
                  have hgW := heap_lt HP7
                  have hHB0 := Below.refl W0.heap.size W0
                  refine pure_ (i := 1) (N := some 124) (v := ?_) (a' := ?_) #[false, true, false, false, false, false, false, false, false, false, false] rfl rfl (any_of HT_.out (by kernel_rfl)) (fun _ _ _ h => h) (Or.inl ⟨by rfl, ?_⟩) ?_ ?_
                  rotate_left
                  · intro w'
                    go_simp
                    with_reducible rfl
                  rotate_left
                  · simp only [Act.put, List.setIfInBounds_toArray, List.set_cons_zero, List.set_cons_succ, i64_w, i32_w]
                    rfl
                  refine pure_ (i := 2) (N := some 125) (v := ?_) (a' := ?_) #[false, true, true, false, false, false, false, false, false, false, false] rfl rfl (any_of HT_.out (by kernel_rfl)) (fun _ _ _ h => h) (Or.inl ⟨by rfl, ?_⟩) ?_ ?_
                  rotate_left
                  · intro w'
                    go_simp
                    with_reducible rfl
                  rotate_left
                  · simp only [Act.put, List.setIfInBounds_toArray, List.set_cons_zero, List.set_cons_succ, i64_w, i32_w]
                    rfl
                  refine pure_ (i := 3) (N := some 126) (v := ?_) (a' := ?_) #[false, true, true, true, false, false, false, false, false, false, false] rfl rfl (any_of HT_.out (by kernel_rfl)) (fun _ _ _ h => h) (Or.inl ⟨by rfl, ?_⟩) ?_ ?_
                  rotate_left
                  · intro w'
                    go_simp
                    with_reducible rfl
                  rotate_left
                  · simp only [Act.put, List.setIfInBounds_toArray, List.set_cons_zero, List.set_cons_succ, i64_w, i32_w]
                    rfl
                  refine pure_ (i := 5) (N := some 128) (v := ?_) (a' := ?_) #[false, true, true, true, false, true, false, false, false, false, false] rfl rfl (any_of HT_.out (by kernel_rfl)) (fun _ _ _ h => h) (Or.inl ⟨by rfl, ?_⟩) ?_ ?_
                  rotate_left
                  · intro w'
                    go_simp
                    with_reducible rfl
                  rotate_left
                  · simp only [Act.put, List.setIfInBounds_toArray, List.set_cons_zero, List.set_cons_succ, i64_w, i32_w]
                    rfl
                  refine pure_ (i := 6) (N := some 129) (v := ?_) (a' := ?_) #[false, true, true, true, false, true, true, false, false, false, false] rfl rfl (any_of HT_.out (by kernel_rfl)) (fun _ _ _ h => h) (Or.inl ⟨by rfl, ?_⟩) ?_ ?_
                  rotate_left
                  · intro w'
                    go_simp
                    with_reducible rfl
                  rotate_left
                  · simp only [Act.put, List.setIfInBounds_toArray, List.set_cons_zero, List.set_cons_succ, i64_w, i32_w]
                    rfl
                  refine pure_ (i := 7) (N := some 130) (v := ?_) (a' := ?_) #[false, true, true, true, false, true, true, true, false, false, false] rfl rfl (any_of HT_.out (by kernel_rfl)) (fun _ _ _ h => h) (Or.inl ⟨by rfl, ?_⟩) ?_ ?_
                  rotate_left
                  · intro w'
                    go_simp
                    with_reducible rfl
                  rotate_left
                  · simp only [Act.put, List.setIfInBounds_toArray, List.set_cons_zero, List.set_cons_succ, i64_w, i32_w]
                    rfl
                  refine pure_ (i := 8) (N := some 131) (v := ?_) (a' := ?_) #[false, true, true, true, false, true, true, true, true, false, false] rfl rfl (any_of HT_.out (by kernel_rfl)) (fun _ _ _ h => h) (Or.inl ⟨by rfl, ?_⟩) ?_ ?_
                  rotate_left
                  · intro w'
                    go_simp
                    with_reducible rfl
                  rotate_left
                  · simp only [Act.put, List.setIfInBounds_toArray, List.set_cons_zero, List.set_cons_succ, i64_w, i32_w]
                    rfl
                  refine one_ (i := 0) (N := some 123) #[true, true, true, true, false, true, true, true, true, false, false] rfl rfl (one_of HT_.out (by kernel_rfl)) (by decide) (fun K hK => ?_)
                  refine Kd.R_lit_step (Kd.int .i64) (w0 := W0) W0.heap.size 3 ?hg (N := 123) ?hd (xs := ([] : List Int)) (inner := []) (ok := fun _ => True) (okp := fun _ => True) ?hr ?hp (fun _ hk => hk) trivial hHB0 hHB0.size (by simp) ?_; (case hd => rfl); (case hg => rfl); (case hr => first | (go_simp; done) | (go_simp; rfl)); (case hp => exact (Reps.none _ _))
                  intro v1_ w1_ ho1 hB1 hg_ hat_
                  clear hg_ hat_
                  refine hK.out _ _ trivial (fun hHeld => ?_)
                  clear hK K
                  refine norm_ (a' := ?_) ?_ ?_
                  rotate_left
                  · show Act.put _ (some 123) _ = _
                    simp only [Act.put, List.setIfInBounds_toArray, List.set_cons_zero, List.set_cons_succ, i64_w, i32_w]
                    rfl
                  refine one_ (i := 4) (N := some 127) #[true, true, true, true, true, true, true, true, true, false, false] rfl rfl (one_of HT_.out (by kernel_rfl)) (by decide) (fun K hK => ?_)
                  refine Kd.R_append_rows_step (Kd.int .i64) (w0 := W0) W0.heap.size (by rfl) (.tmp 123) (.tmp 126) 51 3 (.int .i64 0) 8 rfl Try.underlying51 ages_info3 rfl (by decide) (by omega) v1_ [] T1 _ _ _ (fun _ => True) (fun _ => False) rfl rfl ?aO ?aR (fun _ _ h => h) (fun _ h => h.elim) ?aF ?aB ?aS ?aL ?_
                  (case aR => exact (Kd.C_below hd1 hB1))
                  (case aB => exact hB1)
                  (case aF => exact (fun _ _ => trivial))
                  (case aO => exact ho1)
                  (case aS => exact hB1.size)
                  (case aL => simp only [List.length_nil]; have := hl1h.out; have := hnl.out; have := hroom.out; omega)
                  intro v2_ w2_ ho2 hB2 hg2 hat2
                  clear hg2 hat2
                  refine hK.out _ _ trivial (fun hHeld => ?_)
                  clear hK K
                  refine norm_ (a' := ?_) ?_ ?_
                  rotate_left
                  · show Act.put _ (some 127) _ = _
                    simp only [Act.put, List.setIfInBounds_toArray, List.set_cons_zero, List.set_cons_succ, i64_w, i32_w]
                    rfl
                  refine one_ (i := 9) (N := some 132) #[true, true, true, true, true, true, true, true, true, true, false] rfl rfl (one_of HT_.out (by kernel_rfl)) (by decide) (fun K hK => ?_)
                  refine Kd.R_append_rows_step (Kd.int .i64) (w0 := W0) W0.heap.size (by rfl) (.tmp 127) (.tmp 131) 51 3 (.int .i64 0) 8 rfl Try.underlying51 ages_info3 rfl (by decide) (by omega) v2_ ([] ++ T1) T2 _ _ _ (fun _ => True) (fun _ => False) rfl rfl ?aO ?aR (fun _ _ h => h) (fun _ h => h.elim) ?aF ?aB ?aS ?aL ?_
                  (case aR => exact (Kd.C_below hd2 hB2))
                  (case aB => exact hB2)
                  (case aF => exact (fun _ _ => trivial))
                  (case aO => exact ho2)
                  (case aS => exact hB2.size)
                  (case aL => simp only [List.length_append, List.length_nil]; have := hl1h.out; have := hl2h.out; have := hnl.out; have := hroom.out; omega)
                  intro v3_ w3_ ho3 hB3 hg3 hat3
                  clear hg3 hat3
                  refine hK.out _ _ trivial (fun hHeld => ?_)
                  clear hK K
                  refine norm_ (a' := ?_) ?_ ?_
                  rotate_left
                  · show Act.put _ (some 132) _ = _
                    simp only [Act.put, List.setIfInBounds_toArray, List.set_cons_zero, List.set_cons_succ, i64_w, i32_w]
                    rfl
                  refine pure_ (i := 10) (N := some 8) (v := ?_) (a' := ?_) #[true, true, true, true, true, true, true, true, true, true, true] rfl rfl (any_of HT_.out (by kernel_rfl)) (fun _ _ _ h => h) (Or.inl ⟨by rfl, ?_⟩) ?_ ?_
                  rotate_left
                  · intro w'
                    go_simp
                    with_reducible rfl
                  rotate_left
                  · simp only [Act.put, List.setIfInBounds_toArray, List.set_cons_zero, List.set_cons_succ, i64_w, i32_w]
                    rfl
                  refine done_ (done_of HT_.out (by kernel_rfl)) ?_
                  try go_wp2
                  go_meet
                  have hn6 : nums L = ([] ++ T1) ++ T2 := by rw [HL.out, hTh1.out, hTh2.out, hmh.out, List.nil_append]; exact map_cut l k
                  refine ⟨b, L, ⟨⟨A5, c5, (hB3.block _ hgW).trans HP7, hc5, Kd.C_below hC7 hB3, fun _ ad e_ => hF6 ad e_⟩, by rw [hn6]; exact R_fresh ho3 hgW S5.size, vbelow_step S5 hB3, S3.gw, hchk, S3.last⟩⟩
                · obtain ⟨L, hL⟩ : ∃ L, L = l.set k ⟨y.f0, y.f1, o.nx, y.f3, y.f4, y.f5, y.f6⟩ := ⟨_, rfl⟩
                  rw [← hL] at hv hchk
                  have HL := Lib.hid hL
                  clear hL
                  have h7 : ¬ o.nx = 7 := h7
                  refine (set16 _ n b A c l ⟨y.f0, y.f1, o.nx, y.f3, y.f4, y.f5, y.f6⟩ hC3 hcl hll _ _ _ _ hv).mono ?_
                  rintro e' w5 ⟨A5, c5, rfl, hc5, hC5, hF5, hb5⟩
                  have S5 := S3.below hb5
                  have H5 := (hb5.block _ (heap_lt H3)).trans H3
                  have hgd : g < wd.heap.size := by obtain ⟨_, _, h_, _⟩ := id S3.blk; exact heap_lt h_
                  have hgw5 : g ≠ w5.heap.size := by have := hb5.size; omega
                  have hgw5' := hgw5.symm
                  have D7 : w5.cell? ⟨h, 7, none⟩ = some (.int .i64 o.nx) := (blk_cell H5 7).trans rfl
                  have hhw5 := heap_lt H5
                  have t7 : (o.nx == 7) = false := beq_eq_false_iff_ne.2 h7
                  obtain ⟨Ag, cg, HPg, _, _, _⟩ := id S5.blk
                  have HPa := blk_alloc HPg (.cells #[.int .i64 n, .int .i64 b, .slice A5 L.length c5] 24)
                  obtain ⟨pa0, pa1, pa2, paF⟩ := blk3 HPa
                  have paf0 := paF 0
                  have paf1 := paF 1
                  have paf2 := paF 2
                  clear paF
                  obtain ⟨p0, p1, p2, pF⟩ := blk3 HPg
                  have pf0 := pF 0
                  have pf1 := pF 1
                  have pf2 := pF 2
                  clear pF
                  have hgl5 := heap_lt HPg
                  go_wp2_with fail
                  go_meet
                  have hF6 : ∀ ad, A5 = some ad → g ≠ ad.block := fun ad e_ => by have := hF5 ad e_; omega
                  have hn6 : nums L = nums l := by rw [HL.out]; exact map_put l k hkl' _ (by rw [← hyh.out])
                  exact ⟨b, L, (PS.put HPg S5.low S5.gw hc5 hC5 (fun _ => hF6) (by rw [hn6]; exact S5.own) hchk S5.last).alloc _⟩
            · have t0 : (decide (o.kd ≠ 1) && decide (0 < l.length)) = false := Bool.and_eq_false_iff.2 (by by_cases h1_ : o.kd ≠ 1; exact .inr (decide_eq_false fun h2_ => hgo ⟨h1_, h2_⟩); exact .inl (decide_eq_false h1_))
              rw [t0]
              go_wp2_with fail
              go_meet
              exact ⟨b, l, S1⟩
          case rest =>
            clear S1 H1 h8c h8C hnl hroom
            obtain ⟨b, l, S1⟩ := hcut
            rename World => wt
            obtain ⟨A8, c8, rfl, h8c, h8C⟩ := S1.slice
            have hroom := S1.room
            have hnl := Lib.hid (nums_len l)
            obtain ⟨A, c, HP, hcl, hC, hF⟩ := id S1.blk
            obtain ⟨p0, p1, p2, pF⟩ := blk3 HP
            clear pF
            have hll : l.length ≤ 10 := by omega
            go_wp2_with fail
            refine (rcheck21 _ n b A c l hC hcl hll 0 S1.chk).mono ?_
            rintro e' w4 ⟨rfl, hb4⟩
            have S4 := S1.below hb4
            have HP4 := (hb4.block _ (heap_lt HP)).trans HP
            clear p0 p1 p2 hC hF S1 HP h8C
            obtain ⟨p0, p1, p2, pF⟩ := blk3 HP4
            clear pF
            have t1 : ((l.length : Int) != ((nums l).length : Int)) = false := bne_eq_false_iff_eq.2 (by rw [hnl.out])
            have t2 : (l.length != (nums l).length) = false := bne_eq_false_iff_eq.2 hnl.out.symm
            have t3 : decide (n < ((nums l).length : Int)) = false := decide_eq_false (by rw [hnl.out]; omega)
            clear hroom
            have hroomh := Lib.hid hll
            clear hll
            go_wp2_with fail
            clear p0 p1 p2 t1 t2 t3 HP4 hb4
            go_loopg [20] (l.length + 1) (fun kq v20 wx => ∃ k : Nat, v20 = .int .i64 k ∧ k + kq = l.length + 1 ∧ PS w g wx n b last l (.slice A8 (nums l).length c8))
            case atStart => exact ⟨0, rfl, by omega, S4⟩
            case round =>
              clear S4
              obtain ⟨k, rfl, hkq, S⟩ := hrel
              by_cases hkl2 : k < l.length
              · have hd3 : decide ((k : Int) < ((nums l).length : Int)) = true := decide_eq_true (by rw [hnl.out]; omega)
                have hd4 : decide (k < (nums l).length) = true := decide_eq_true (by rw [hnl.out]; exact hkl2)
                have hk0 : (0 : Int) ≤ (k : Int) := by omega
                have hk1 : (k : Int) < ((nums l).length : Int) := by rw [hnl.out]; omega
                have hk2 : (k : Int) < (l.length : Int) := by omega
                obtain ⟨A, c, HP, hcl, hC, _⟩ := id S.blk
                obtain ⟨p0, p1, p2, pF⟩ := blk3 HP
                clear pF
                obtain ⟨ad, rfl, Q0, _⟩ := at_T42 hC (k : Int) hk0 hk2
                have hc8 := (Kd.R_reads' S.own).2.2
                obtain ⟨ad8, eA8, hE⟩ := Kd.at_int hc8 (k : Int) hk0 hk1
                subst eA8
                obtain ⟨y, hy⟩ : ∃ y : Int, l[k].f0 = y := ⟨_, rfl⟩
                rw [nums_rd hkl2, hy] at hE
                rw [rd_get hkl2, hy, Int.toNat_natCast] at Q0
                rw [Int.toNat_natCast] at hE
                have hyh := Lib.hid hy
                clear hy
                have ty : (y != y) = false := bne_self_eq_false y
                go_upto_region 37 with fail
                have q0_ := gw_cell p0
                have q1_ := gw_cell p1
                have q2_ := gw_cell p2
                have qE := gw_cell hE
                have qQ := gw_cell Q0
                clear p0 p1 p2 hE Q0
                refine wp_region_quietB (by kernel_rfl) (by kernel_rfl) ?_
                repeat (first | go_big_quiet_step (fail) | quiet_step (fail))
                refine wpQuiet_nil ?_
                rintro w9 ⟨⟨wq_, hb9⟩, hwq_⟩
                obtain rfl : w9 = wq_ := hwq_
                have S9 := S.below hb9
                go_wp2
                obtain ⟨k3, rfl⟩ : ∃ k3, gk = k3 + 1 := ⟨gk - 1, by omega⟩
                have hll2 := hroomh.out
                have hw_ : wrap64 ((k : Int) + 1) = ((k + 1 : Nat) : Int) := (w64 (by omega) (by omega)).trans (by omega)
                go_roundg k3
                case measure => omega
                case rel => exact ⟨k + 1, by first | (rw [hw_]) | (rw [i64_w, hw_]) | go_num, by omega, S9⟩
              · have hd3 : decide ((k : Int) < ((nums l).length : Int)) = false := decide_eq_false (by rw [hnl.out]; omega)
                have hd4 : decide (k < (nums l).length) = false := decide_eq_false (by rw [hnl.out]; exact hkl2)
                go_wp2
                go_roundg k1
                case measure => omega
                case rel => exact ⟨i + 1, b, last, l, rfl, by go_num, by omega, S⟩
    · by_cases hlo : i < ops.length
      · have hd1 : decide ((i : Int) < (ops.length : Int)) = true := decide_eq_true (by omega)
        have hd2 : decide ((i : Int) < 60) = false := decide_eq_false (by omega)
        go_wp2_with fail
        go_ret
        exact ⟨rfl, S.low⟩
      · have hd1 : decide ((i : Int) < (ops.length : Int)) = false := decide_eq_false (by omega)
        go_wp2_with fail
        go_ret
        exact ⟨rfl, S.low⟩
end Go.Proofs.Ytkkgnmfahhkajaa.Q
