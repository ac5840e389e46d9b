/- Layer 11: the walk of the law CapabStands. -/
import Derived.Test.YtcpaakhmcpeagaaC22
import Derived.Test.YtcpaakhmcpeagaaC10
namespace Go.Proofs.Ytcpaakhmcpeagaa.Q
open Go.RowKit Go.Proofs.YtcpaakhmcpeagaaW.PrintWords Go.Proofs.YtcpaakhmcpeagaaW.PrintMore
set_option linter.unusedVariables false
set_option linter.unusedSimpArgs false
open Go.Proofs.YtcpaakhmcpeagaaW.PrintLast
set_option maxHeartbeats 8000000 in
set_option maxRecDepth 100000 in
theorem stands5 (w : World) (A : Option Addr) (c : Nat) (ops : List Oq) (hO : OpsAt w A ops) (hc : ops.length ≤ 9223372036854775807) (hx : Int) (h0 : 0 ≤ hx) (h1 : hx < 4294967296) : Calls Try.prog 5 #[.slice A ops.length c, .int .u32 hx] w fun e w' => e = .returned (.bool true) ∧ Below w.heap.size w w' := by
  go_enter Try.func5, Try.ntmps5
  go_wp2_with fail
  refine (new9' _ 32 (by decide)).mono ?_
  rintro e w1 ⟨rfl, T1, hb1⟩
  go_wp2
  go_loopw [7, 8] (fun v7 v8 wr => ∃ (k : Nat) (P : Nat → Pl) (L : List Nat) (T : List (Int × Int × Int)), v8 = .int .i64 k ∧ k ≤ 80 ∧ MS w wr P v7 T ∧ St P L ∧ Aside0 (T = L.map (heldOf P))) (fun _ v8 _ => 81 - (intOf v8).toNat)
  case atStart => exact ⟨0, freshP, [], [], rfl, by omega, MS.start w1 T1 freshP_ok hb1, St.start, ⟨rfl⟩⟩
  case round =>
    obtain ⟨k, P, L, T, rfl, hk, S, I, HT⟩ := hrel
    have hll : L.length ≤ 32 := by have h_ := len_le L (List.range 32) I.nod (fun x hx => List.mem_range.2 ((I.iff x).1 hx).1); rwa [List.length_range] at h_
    by_cases hlt : k < ops.length ∧ k < 80
    · obtain ⟨ad, o, ho_, hfine, rfl, C0, C1, C2, C3, C4⟩ := (hO.below S.low).get k hlt.1
      obtain ⟨A7, c7, e7⟩ := Kd.R_slice S.r
      subst e7
      obtain ⟨f0, f1, f2, f3⟩ := hfine
      clear ho_
      have HTl : Aside0 (T.length = L.length) := ⟨by rw [HT.out]; exact List.length_map (heldOf P)⟩
      have hT32 : T.length ≤ 32 := by have hTl_ := HTl.out; omega
      have hk0 : (0 : Int) ≤ (k : Int) := by omega
      have hkl : (k : Int) < (ops.length : Int) := by omega
      have hd1 : decide ((k : Int) < (ops.length : Int)) = true := decide_eq_true hkl
      have hd2 : decide ((k : Int) < 80) = true := decide_eq_true (by omega)
      by_cases hk1 : o.kd = 1
      · rw [hk1] at C0
        go_wp2_with fail
        refine (mint11 _ w.heap.size P 32 (by decide) S.ok (S.tab.alloc _) o.ch o.r f0 f1).mono ?_
        obtain ⟨mh, me, mP, hm⟩ : ∃ mh me mP, mintF P 32 o.ch o.r = (mh, me, mP) := ⟨_, _, _, rfl⟩
        have okm := mintF_ok S.ok 32 o.ch o.r f0 f1
        rw [hm] at okm ⊢
        dsimp only at okm ⊢
        rintro e w2 ⟨rfl, T2, O2⟩
        have S2 := (S.alloc _).only O2 T2 okm
        have hne9 : wr.heap.size ≠ w.heap.size := Nat.ne_of_gt S.tab.lt
        have K1 : w2.cell? ⟨wr.heap.size, 1, none⟩ = some (.int .i64 o.ch) := O2.cell (vcell_new rfl) hne9
        have K2 : w2.cell? ⟨wr.heap.size, 2, none⟩ = some (.int .u8 o.r) := O2.cell (vcell_new rfl) hne9
        have hz9 : wr.heap.size < w2.heap.size := Nat.lt_of_lt_of_le (by rw [World.size_alloc]; omega) O2.size
        clear O2 T2
        by_cases he : me = 0
        · subst he
          obtain ⟨i, hf, hmi⟩ := mint_is (P := P) (n := 32) (c := o.ch) (r := o.r) (by rw [hm])
          rw [hm] at hmi
          obtain ⟨rfl, rfl⟩ : mh = (handleR i o.r (P i).g).1 ∧ mP = upd P i ⟨(P i).g, true, o.ch, o.r⟩ := by injection hmi with h1 h2; injection h2 with h2 h3; exact ⟨h1, h3⟩
          obtain ⟨I2, hmap, hl32⟩ := st_mint I (c := o.ch) (r := o.r) hf
          go_wp2_with ((with_reducible refine gate_builtin (b := .append) (xs := #[.tmp 54, .tmp 59]) rfl ?_); at_builtin; refine Kd.R_append kH (w0 := w) w.heap.size rfl (.tmp 54) (.tmp 59) 43 45 (.agg #[.int .u32 0, .int .i64 0, .int .u8 0]) 24 rfl Try.underlying43 info45' rfl (by decide) (by omega) (.slice A7 T.length c7) (T) ((handleR i o.r (P i).g).1, o.ch, o.r) [.int .u32 (handleR i o.r (P i).g).1, .int .i64 o.ch, .int .u8 o.r] (fun _ => True) (fun _ => False) rfl rfl ?aP (fun _ hk => hk.elim) ?aF ?aO ?aB ?aS ?aL ?_; (case aP => exact kH_mkM _ _ _ _); (case aB => exact S2.low); (case aF => exact (fun _ _ => trivial)); (case aO => exact S2.r); (case aS => exact S2.low.size); (case aL => have hTl_ := HTl.out; omega); intro v7n w4 ho hb4 hg4 hat4)
          have S3 := S2.app ho hb4 hg4 hat4
          go_wp2
          go_roundw
          case rel => exact ⟨k + 1, _, _, _, by go_num, by omega, S3, I2, ⟨by rw [hmap, HT.out]⟩⟩
          case measure => simp [intOf]; omega
        · have hm2 := mint_not (P := P) (n := 32) (c := o.ch) (r := o.r) (by rw [hm]; exact he)
          rw [hm] at hm2
          dsimp only at hm2
          subst hm2
          have hed : decide (me = 0) = false := decide_eq_false he
          have heb : (me == 0) = false := beq_eq_false_iff_ne.2 he
          go_wp2
          go_roundw
          case rel => exact ⟨k + 1, _, _, _, by go_num, by omega, S2, I, HT⟩
          case measure => simp [intOf]; omega
      · by_cases hkl2 : o.k < 0
        · have hkd : decide (o.kd = 1) = false := decide_eq_false hk1
          have hkb : (o.kd == 1) = false := beq_eq_false_iff_ne.2 hk1
          have hkn : decide (0 ≤ o.k) = false := decide_eq_false (by omega)
          go_wp2
          go_roundw
          case rel => exact ⟨k + 1, _, _, _, by go_num, by omega, S.alloc _, I, HT⟩
          case measure => simp [intOf]; omega
        · by_cases hkh : o.k < (L.length : Int)
          · have hkd : decide (o.kd = 1) = false := decide_eq_false hk1
            have hkb : (o.kd == 1) = false := beq_eq_false_iff_ne.2 hk1
            obtain ⟨q, hq⟩ : ∃ q : Nat, o.k = (q : Int) := ⟨o.k.toNat, by omega⟩
            rw [hq] at C4
            have hql : q < T.length := by have hTl_ := HTl.out; omega
            obtain ⟨ad7, e7, rfl, hx7, E7, _, _⟩ := H_at S.r q hql
            obtain ⟨i, hLi, hei⟩ : ∃ i, L[q]? = some i ∧ heldOf P i = e7 := by rw [HT.out, List.getElem?_map, Option.map_eq_some_iff] at hx7; exact hx7
            subst hei
            replace E7 : World.cell? _ _ = some (.int .u32 (hd P i)) := E7
            have E7a := vcell_alloc E7 (.cells #[.int .i64 o.kd, .int .i64 o.ch, .int .u8 o.r, .int .u32 o.h, .int .i64 (q : Int)] 33)
            have E7b := World.block_lt_of_cell? _ _ E7
            have hq0 : (0 : Int) ≤ (q : Int) := by omega
            have hq1 : (q : Int) < (T.length : Int) := by omega
            have hq2 : decide ((q : Int) < (T.length : Int)) = true := decide_eq_true hq1
            obtain ⟨hi32, hit⟩ := (I.iff i).1 (List.mem_of_getElem? hLi)
            obtain ⟨_, hx0, hx1⟩ := at_held S.ok hi32 hit
            obtain ⟨hdr, I2, hmap⟩ := st_drop S.ok I hLi
            go_wp2_with fail
            refine (drop12 _ w.heap.size P 32 (by decide) S.ok (S.tab.alloc _) (hd P i) hx0 hx1).mono ?_
            have okd := dropF_ok S.ok 32 (hd P i)
            rw [hdr] at okd ⊢
            dsimp only at okd ⊢
            rintro e w2 ⟨rfl, T2, O2⟩
            have S2 := (S.alloc _).only O2 T2 okd
            have hne9 : wr.heap.size ≠ w.heap.size := Nat.ne_of_gt S.tab.lt
            have K4 : w2.cell? ⟨wr.heap.size, 4, none⟩ = some (.int .i64 (q : Int)) := O2.cell (vcell_new rfl) hne9
            have hz9 : wr.heap.size < w2.heap.size := Nat.lt_of_lt_of_le (by rw [World.size_alloc]; omega) O2.size
            clear O2 T2 E7 E7a E7b
            have hcutA : ∀ W_ : World, (Instr.slice 43 (.slice (some ad7) T.length c7) none (some (.int .i64 (q : Int))) none).run Try.prog W_ = .ok (.slice (some ad7) q c7) W_ := by obtain ⟨i0_, hi0_, _⟩ := info_parts info45'; have h_ := cut_to (P := Try.prog) 43 45 .i64 Try.underlying43 hi0_ (some ad7) T.length c7 (q : Int) hq0 (by omega) (Kd.R_reads' S2.r).2.1; rwa [Int.toNat_natCast] at h_
            obtain ⟨A9, hA9⟩ : ∃ A9, A9 = (if c7 = q + 1 then some ad7 else (some ad7 : Option Addr).map (·.add ((q + 1) * 3))) := ⟨_, rfl⟩
            obtain ⟨n9, hn9⟩ : ∃ n9, n9 = T.length - (q + 1) := ⟨_, rfl⟩
            obtain ⟨c9, hc9⟩ : ∃ c9, c9 = c7 - (q + 1) := ⟨_, rfl⟩
            have hcutB : ∀ W_ : World, (Instr.slice 43 (.slice (some ad7) T.length c7) (some (.int .i64 ((q : Int) + 1))) none none).run Try.prog W_ = .ok (.slice A9 n9 c9) W_ := by obtain ⟨i0_, hi0_, _, hsz_, _⟩ := info_parts info45'; have h_ := cut_from (P := Try.prog) 43 45 .i64 Try.underlying43 hi0_ 3 hsz_ (some ad7) T.length c7 ((q : Int) + 1) (by omega) (by omega); rw [show ((q : Int) + 1).toNat = q + 1 by omega, ← hA9, ← hn9, ← hc9] at h_; exact h_
            have hqT : q ≤ T.length := by omega
            have hqT1 : q + 1 ≤ T.length := by omega
            have hl5 : (([] : List (Int × Int × Int)).length + q) * 24 ≤ 140737488355328 := by simp only [List.length_nil]; omega
            have hl11 : (([] ++ T.take q).length + n9) * 24 ≤ 140737488355328 := by rw [List.nil_append, List.length_take]; omega
            have hsz2 := S2.tab.lt
            have hA_ : ∀ b', w2.heap.size ≤ b' → w.heap.size ≠ b' := fun b' h => by omega
            have hB_ : ∀ k b', k < w2.heap.size → w2.heap.size ≤ b' → k ≠ b' := fun k b' h h' => by omega
            have hC_ : ∀ b', w2.heap.size ≤ b' → wr.heap.size ≠ b' := fun b' h => by omega
            have hk80 : k + 1 ≤ 80 := by omega
            have hw1 : wrap64 ((q : Int) + 1) = (q : Int) + 1 := w64 (by omega) (by omega)
            have HcA := Lib.hid hA9
            clear hA9
            have HcN := Lib.hid hn9
            clear hn9
            clear hc9
            go_wp2
            refine start_ (n := 13) (S := fun w' => w'.cell? ⟨wr.heap.size, 4, none⟩ = some (.int .i64 (q : Int))) (ds := [11]) #[false, false, false, false, false, false, false, false, false, false, false, false, false] (by kernel_rfl) rfl rfl (K4) (fun hHeld => ?_)
            refine pure_ (i := 1) (N := some 81) (v := ?_) (a' := ?_) #[false, true, false, false, false, false, false, false, false, false, false, false, false] rfl rfl (by kernel_rfl) (fun _ _ _ h => h) (Or.inl ⟨by rfl, ?_⟩) ?_ ?_
            rotate_left
            · intro w'
              go_simp
              with_reducible rfl
            rotate_left
            · simp only [Act.put, List.setIfInBounds_toArray, List.set_cons_zero, List.set_cons_succ, i64_w, i32_w]
              rfl
            refine pure_ (i := 2) (N := some 82) (v := ?_) (a' := ?_) #[false, true, true, false, false, false, false, false, false, false, false, false, false] rfl rfl (by kernel_rfl) (fun _ _ _ h => h) (Or.inl ⟨by rfl, ?_⟩) ?_ ?_
            rotate_left
            · intro w'
              go_simp
              with_reducible rfl
            rotate_left
            · simp only [Act.put, List.setIfInBounds_toArray, List.set_cons_zero, List.set_cons_succ, i64_w, i32_w]
              rfl
            refine pure_ (i := 6) (N := some 86) (v := ?_) (a' := ?_) #[false, true, true, false, false, false, true, false, false, false, false, false, false] rfl rfl (by kernel_rfl) (fun _ _ _ h => h) (Or.inl ⟨by rfl, ?_⟩) ?_ ?_
            rotate_left
            · intro w'
              go_simp
              with_reducible rfl
            rotate_left
            · simp only [Act.put, List.setIfInBounds_toArray, List.set_cons_zero, List.set_cons_succ, i64_w, i32_w]
              rfl
            refine pure_ (i := 7) (N := some 87) (v := ?_) (a' := ?_) #[false, true, true, false, false, false, true, true, false, false, false, false, false] rfl rfl (by kernel_rfl) (fun _ _ _ h => h) (Or.inl ⟨by rfl, ?_⟩) ?_ ?_
            rotate_left
            · intro w'
              go_simp
              with_reducible rfl
            rotate_left
            · simp only [Act.put, List.setIfInBounds_toArray, List.set_cons_zero, List.set_cons_succ, i64_w, i32_w]
              rfl
            refine take_ (i := 3) (N := some 83) (v := ?_) (a' := ?_) #[false, true, true, true, false, false, true, true, false, false, false, false, false] rfl rfl (by kernel_rfl) (fun _ _ _ h => h) (Or.inl ⟨by rfl, ?_⟩) hHeld ?_ ?_
            rotate_left
            · intro w' s0
              go_simp
              with_reducible rfl
            rotate_left
            · simp only [Act.put, List.setIfInBounds_toArray, List.set_cons_zero, List.set_cons_succ, i64_w, i32_w]
              rfl
            refine pure_ (i := 4) (N := some 84) (v := ?_) (a' := ?_) #[false, true, true, true, true, false, true, true, false, false, false, false, false] rfl rfl (by kernel_rfl) (fun _ _ _ h => h) (Or.inl ⟨by rfl, ?_⟩) ?_ ?_
            rotate_left
            · intro w'
              go_simp
              with_reducible rfl
            rotate_left
            · simp only [Act.put, List.setIfInBounds_toArray, List.set_cons_zero, List.set_cons_succ, i64_w, i32_w]
              rfl
            refine take_ (i := 8) (N := some 88) (v := ?_) (a' := ?_) #[false, true, true, true, true, false, true, true, true, false, false, false, false] rfl rfl (by kernel_rfl) (fun _ _ _ h => h) (Or.inl ⟨by rfl, ?_⟩) hHeld ?_ ?_
            rotate_left
            · intro w' s0
              go_simp
              with_reducible rfl
            rotate_left
            · simp only [Act.put, List.setIfInBounds_toArray, List.set_cons_zero, List.set_cons_succ, i64_w, i32_w]
              rfl
            refine pure_ (i := 9) (N := some 89) (v := ?_) (a' := ?_) #[false, true, true, true, true, false, true, true, true, true, false, false, false] rfl rfl (by kernel_rfl) (fun _ _ _ h => h) (Or.inl ⟨by rfl, ?_⟩) ?_ ?_
            rotate_left
            · intro w'
              go_simp
              with_reducible rfl
            rotate_left
            · simp only [Act.put, List.setIfInBounds_toArray, List.set_cons_zero, List.set_cons_succ, i64_w, i32_w]
              rfl
            refine pure_ (i := 10) (N := some 90) (v := ?_) (a' := ?_) #[false, true, true, true, true, false, true, true, true, true, true, false, false] rfl rfl (by kernel_rfl) (fun _ _ _ h => h) (Or.inl ⟨by rfl, ?_⟩) ?_ ?_
            rotate_left
            · intro w'
              go_simp
              with_reducible rfl
            rotate_left
            · simp only [Act.put, List.setIfInBounds_toArray, List.set_cons_zero, List.set_cons_succ, i64_w, i32_w]
              rfl
            refine one_ (i := 0) (N := some 80) #[true, true, true, true, true, false, true, true, true, true, true, false, false] rfl rfl (by kernel_rfl) (by decide) (fun K hK => ?_)
            refine Kd.R_lit_step kH w.heap.size 45 (by rfl) (N := 80) rfl (xs := ([] : List (Int × Int × Int))) (inner := []) (ok := fun _ => True) (okp := fun _ => True) ?hr (Reps.none _ _) (fun _ hk => hk) trivial (vbelow_drew S2.low) (vbelow_drew S2.low).size (by simp) ?_
            · first | (go_simp; done) | (go_simp; rfl)
            intro v80 w80 ho80 hb80 hg80 hat80
            obtain ⟨b80, hb80e, hle80⟩ := hat80
            have S80 := (S2.below (Below.refl _ w2).drew).below (grown_below hg80)
            have K80 := grown_cell hg80 K4 (by simp)
            refine hK.out _ _ (K80) (fun hHeld => ?_)
            clear hK K
            refine norm_ (a' := ?_) ?_ ?_
            rotate_left
            · show Act.put _ (some 80) _ = _
              simp only [Act.put, List.setIfInBounds_toArray, List.set_cons_zero, List.set_cons_succ, i64_w, i32_w]
              rfl
            refine one_ (i := 5) (N := some 85) #[true, true, true, true, true, true, true, true, true, true, true, false, false] rfl rfl (by kernel_rfl) (by decide) (fun K hK => ?_)
            refine Kd.R_append_rows_step kH (Rr := kH.K w80) (w0 := w) w.heap.size (by rfl) (.tmp 80) (.tmp 84) 43 45 (.agg #[.int .u32 0, .int .i64 0, .int .u8 0]) 24 rfl Try.underlying43 info45' rfl (by decide) (by decide) v80 ([] : List (Int × Int × Int)) (T.take q) (some ad7) q c7 (fun _ => True) (fun _ => False) rfl rfl ho80 (H_take S80.r q hqT) (fun _ _ h => kH_KM h) (fun _ hk => hk.elim) (fun _ _ => trivial) hb80 hb80.size hl5 ?_
            intro v85 w85 ho85 hb85 hg85 hat85
            have S85 := S80.grown hg85 (fun e => by rw [hb80e] at e; injection e with e; exact hA_ _ hle80 e) (fun k hk e => by rw [hb80e] at e; injection e with e; exact hB_ _ _ (Kd.R_lt S2.r k hk) hle80 e) hb85
            have K85 := grown_cell hg85 K80 (fun e => by rw [hb80e] at e; injection e with e; exact hC_ _ hle80 e)
            refine hK.out _ _ (K85) (fun hHeld => ?_)
            clear hK K
            refine norm_ (a' := ?_) ?_ ?_
            rotate_left
            · show Act.put _ (some 85) _ = _
              simp only [Act.put, List.setIfInBounds_toArray, List.set_cons_zero, List.set_cons_succ, i64_w, i32_w]
              rfl
            refine last_ (i := 11) (N := some 91) #[true, true, true, true, true, true, true, true, true, true, true, true, false] rfl rfl (by kernel_rfl) (by decide) (fun K hK => ?_)
            refine Kd.R_append_rows_step kH (Rr := kH.K w85) (w0 := w) w.heap.size (by rfl) (.tmp 85) (.tmp 90) 43 45 (.agg #[.int .u32 0, .int .i64 0, .int .u8 0]) 24 rfl Try.underlying43 info45' rfl (by decide) (by decide) v85 ([] ++ T.take q) (T.drop (q + 1)) A9 n9 c9 (fun _ => True) (fun _ => False) rfl rfl ho85 (by rw [HcA.out, HcN.out]; exact H_drop S85.r (q + 1) hqT1) (fun _ _ h => kH_KM h) (fun _ hk => hk.elim) (fun _ _ => trivial) hb85 hb85.size hl11 ?_
            intro v91 w91 ho91 hb91 hg91 hat91
            have S91 := S85.row ho85 hg91 ho91 hb91
            refine hK.out _ _ ?_
            clear hK K
            refine norm_ (a' := ?_) ?_ ?_
            rotate_left
            · show Act.put _ (some 91) _ = _
              simp only [Act.put, List.setIfInBounds_toArray, List.set_cons_zero, List.set_cons_succ, i64_w, i32_w]
              rfl
            refine pure_ (i := 12) (N := some 7) (v := ?_) (a' := ?_) #[true, true, true, true, true, true, true, true, true, true, true, true, true] rfl rfl (by kernel_rfl) (fun _ _ _ h => h) (Or.inl ⟨by rfl, ?_⟩) ?_ ?_
            rotate_left
            · intro w'
              go_simp
              with_reducible rfl
            rotate_left
            · simp only [Act.put, List.setIfInBounds_toArray, List.set_cons_zero, List.set_cons_succ, i64_w, i32_w]
              rfl
            refine done_ (by kernel_rfl) ?_
            
            clear hw1
            try go_wp2
            go_roundw
            case rel => exact ⟨k + 1, _, _, _, by go_num, hk80, S91, I2, ⟨by rw [hmap, HT.out]; rfl⟩⟩
            case measure => simp [intOf]; omega
          · have hkd : decide (o.kd = 1) = false := decide_eq_false hk1
            have hkb : (o.kd == 1) = false := beq_eq_false_iff_ne.2 hk1
            have hkn : decide (0 ≤ o.k) = true := decide_eq_true (by omega)
            have hkm : decide (o.k < (T.length : Int)) = false := decide_eq_false (by have hTl_ := HTl.out; omega)
            go_wp2
            go_roundw
            case rel => exact ⟨k + 1, _, _, _, by go_num, by omega, S.alloc _, I, HT⟩
            case measure => simp [intOf]; omega
    · by_cases hlo : k < ops.length
      · have hd1 : decide ((k : Int) < (ops.length : Int)) = true := decide_eq_true (by omega)
        have hd2 : decide ((k : Int) < 80) = false := decide_eq_false (by omega)
        have HTl : Aside0 (T.length = L.length) := ⟨by rw [HT.out]; exact List.length_map (heldOf P)⟩
        have hT32 : T.length ≤ 32 := by have hTl_ := HTl.out; omega
        obtain ⟨A7, c7, e7⟩ := Kd.R_slice S.r
        subst e7
        go_wp2
        go_loopw [12, 13] (fun v12 v13 wr2 => ∃ (j : Nat) (kn : Bool), j ≤ T.length ∧ v13 = .int .i64 j ∧ v12 = .bool kn ∧ Aside0 (kn = (T.take j).any (fun e => e.1 == hx)) ∧ MS w wr2 P (.slice A7 T.length c7) T) (fun _ v13 _ => T.length + 1 - (intOf v13).toNat)
        case atStart => exact ⟨0, false, Nat.zero_le _, rfl, rfl, ⟨by rw [List.take_zero]; rfl⟩, S⟩
        case round =>
          obtain ⟨j, kn, hj, rfl, rfl, HK, S4⟩ := hrel
          by_cases hjl : j < T.length
          · obtain ⟨ad7, e7, rfl, hx7, E0, E1, E2⟩ := H_at S4.r j hjl
            have HS : Aside0 ((T.take (j + 1)).any (fun e => e.1 == hx) = (kn || (e7.1 == hx))) := ⟨by rw [List.take_add_one, hx7, List.any_append, HK.out]; simp⟩
            obtain ⟨i, hLi, hei⟩ := List.mem_map.1 (by have h_ := List.mem_of_getElem? hx7; rw [HT.out] at h_; exact h_ : e7 ∈ L.map (heldOf P))
            subst hei
            obtain ⟨hi32, hit⟩ := (I.iff i).1 hLi
            obtain ⟨_, hx0, hx1⟩ := at_held S4.ok hi32 hit
            replace E0 : World.cell? _ _ = some (.int .u32 (hd P i)) := E0
            replace E1 : World.cell? _ _ = some (.int .i64 (P i).c) := E1
            replace E2 : World.cell? _ _ = some (.int .u8 (P i).r) := E2
            replace HS : Aside0 ((T.take (j + 1)).any (fun e => e.1 == hx) = (kn || (hd P i == hx))) := HS
            clear hx7
            have hj0 : (0 : Int) ≤ (j : Int) := by omega
            have hj1 : (j : Int) < (T.length : Int) := by omega
            have hj2 : decide ((j : Int) < (T.length : Int)) = true := decide_eq_true hj1
            go_wp2_with fail
            refine (find13' _ w.heap.size P 32 (by decide) S4.ok S4.tab (hd P i) hx0 hx1).mono ?_
            rw [find_held S4.ok hi32 hit]
            rintro e w5 ⟨rfl, T5, hb5⟩
            have S5 := (S4.below hb5).alloc (.cells #[.int .i64 (P i).c, .int .u8 (P i).r] 30)
            have N0 : (w5.alloc (.cells #[.int .i64 (P i).c, .int .u8 (P i).r] 30)).cell? ⟨w5.heap.size, 0, none⟩ = some (.int .i64 (P i).c) := vcell_new rfl
            have N1 : (w5.alloc (.cells #[.int .i64 (P i).c, .int .u8 (P i).r] 30)).cell? ⟨w5.heap.size, 1, none⟩ = some (.int .u8 (P i).r) := vcell_new rfl
            have E0 := vcell_alloc (vcell hb5 E0) (.cells #[.int .i64 (P i).c, .int .u8 (P i).r] 30)
            have E1 := vcell_alloc (vcell hb5 E1) (.cells #[.int .i64 (P i).c, .int .u8 (P i).r] 30)
            have E2 := vcell_alloc (vcell hb5 E2) (.cells #[.int .i64 (P i).c, .int .u8 (P i).r] 30)
            clear S4
            go_wp2
            have qn0 := gw_cell N0
            have qn1 := gw_cell N1
            have qe0 := gw_cell E0
            have qe1 := gw_cell E1
            have qe2 := gw_cell E2
            refine wp_region_quietB (by kernel_rfl) (by kernel_rfl) ?_
            repeat (first | go_big_quiet_step (fail) | quiet_step (fail))
            refine wpQuiet_nil ?_
            rintro w9 ⟨⟨wq_, hb9⟩, hwq_⟩
            obtain rfl : w9 = wq_ := hwq_
            have S9 := S5.below hb9
            have E0 := vcell hb9 E0
            have E9 := World.block_lt_of_cell? _ _ E0
            clear qn0 qn1 qe0 qe1 qe2 N0 N1 E1 E2 S5
            cases kn with
            | true =>
              go_wp2
              go_roundw
              case rel => exact ⟨j + 1, true, by omega, by go_num, rfl, ⟨by rw [HS.out, Bool.true_or]⟩, S9⟩
              case measure => simp [intOf]; omega
            | false =>
              by_cases heq : hd P i = hx
              · have hb1 : (hd P i == hx) = true := beq_iff_eq.2 heq
                have hb2 : decide (hd P i = hx) = true := decide_eq_true heq
                go_wp2
                go_roundw
                case rel => exact ⟨j + 1, true, by omega, by go_num, rfl, ⟨by rw [HS.out, hb1]; rfl⟩, S9⟩
                case measure => simp [intOf]; omega
              · have hb1 : (hd P i == hx) = false := beq_eq_false_iff_ne.2 heq
                have hb2 : decide (hd P i = hx) = false := decide_eq_false heq
                go_wp2
                go_roundw
                case rel => exact ⟨j + 1, false, by omega, by go_num, rfl, ⟨by rw [HS.out, hb1]; rfl⟩, S9⟩
                case measure => simp [intOf]; omega
          · obtain rfl : j = T.length := by omega
            have hkn := find_known S4.ok I hx
            rw [← HT.out] at hkn
            have hkn2 := HK.out
            rw [List.take_of_length_le (Nat.le_refl _), ← hkn] at hkn2
            obtain ⟨fc, fr, fb, hf⟩ : ∃ fc fr fb, findF P 32 hx = (fc, fr, fb) := ⟨_, _, _, rfl⟩
            rw [hf] at hkn2
            dsimp only at hkn2
            subst hkn2
            clear hkn HK
            go_wp2_with fail
            refine (find13' _ w.heap.size P 32 (by decide) S4.ok S4.tab hx h0 h1).mono ?_
            rw [hf]
            rintro e w5 ⟨rfl, T5, hb5⟩
            have S5 := (S4.below hb5).alloc (.cells #[.int .i64 fc, .int .u8 fr] 30)
            go_wp2_with fail
            refine (live17 _ w.heap.size P 32 (by decide) S5.ok S5.tab).mono ?_
            rintro e w6 ⟨vl, rfl, HR6, hb6⟩
            obtain ⟨Ao, co, rfl⟩ := Kd.R_slice HR6
            rw [(live_len I).trans HTl.out.symm]
            have S6 := S5.below hb6
            clear S4 S5 S hf HR6
            go_wp2_with fail
            refine (alive10 _).mono ?_
            rintro e w7 ⟨rfl, hb7⟩
            go_wp2
            go_ret
            exact ⟨by cases kn <;> rfl, vbelow_step S6.low hb7⟩
      · have hd1 : decide ((k : Int) < (ops.length : Int)) = false := decide_eq_false (by omega)
        have HTl : Aside0 (T.length = L.length) := ⟨by rw [HT.out]; exact List.length_map (heldOf P)⟩
        have hT32 : T.length ≤ 32 := by have hTl_ := HTl.out; omega
        obtain ⟨A7, c7, e7⟩ := Kd.R_slice S.r
        subst e7
        go_wp2
        go_loopw [12, 13] (fun v12 v13 wr2 => ∃ (j : Nat) (kn : Bool), j ≤ T.length ∧ v13 = .int .i64 j ∧ v12 = .bool kn ∧ Aside0 (kn = (T.take j).any (fun e => e.1 == hx)) ∧ MS w wr2 P (.slice A7 T.length c7) T) (fun _ v13 _ => T.length + 1 - (intOf v13).toNat)
        case atStart => exact ⟨0, false, Nat.zero_le _, rfl, rfl, ⟨by rw [List.take_zero]; rfl⟩, S⟩
        case round =>
          obtain ⟨j, kn, hj, rfl, rfl, HK, S4⟩ := hrel
          by_cases hjl : j < T.length
          · obtain ⟨ad7, e7, rfl, hx7, E0, E1, E2⟩ := H_at S4.r j hjl
            have HS : Aside0 ((T.take (j + 1)).any (fun e => e.1 == hx) = (kn || (e7.1 == hx))) := ⟨by rw [List.take_add_one, hx7, List.any_append, HK.out]; simp⟩
            obtain ⟨i, hLi, hei⟩ := List.mem_map.1 (by have h_ := List.mem_of_getElem? hx7; rw [HT.out] at h_; exact h_ : e7 ∈ L.map (heldOf P))
            subst hei
            obtain ⟨hi32, hit⟩ := (I.iff i).1 hLi
            obtain ⟨_, hx0, hx1⟩ := at_held S4.ok hi32 hit
            replace E0 : World.cell? _ _ = some (.int .u32 (hd P i)) := E0
            replace E1 : World.cell? _ _ = some (.int .i64 (P i).c) := E1
            replace E2 : World.cell? _ _ = some (.int .u8 (P i).r) := E2
            replace HS : Aside0 ((T.take (j + 1)).any (fun e => e.1 == hx) = (kn || (hd P i == hx))) := HS
            clear hx7
            have hj0 : (0 : Int) ≤ (j : Int) := by omega
            have hj1 : (j : Int) < (T.length : Int) := by omega
            have hj2 : decide ((j : Int) < (T.length : Int)) = true := decide_eq_true hj1
            go_wp2_with fail
            refine (find13' _ w.heap.size P 32 (by decide) S4.ok S4.tab (hd P i) hx0 hx1).mono ?_
            rw [find_held S4.ok hi32 hit]
            rintro e w5 ⟨rfl, T5, hb5⟩
            have S5 := (S4.below hb5).alloc (.cells #[.int .i64 (P i).c, .int .u8 (P i).r] 30)
            have N0 : (w5.alloc (.cells #[.int .i64 (P i).c, .int .u8 (P i).r] 30)).cell? ⟨w5.heap.size, 0, none⟩ = some (.int .i64 (P i).c) := vcell_new rfl
            have N1 : (w5.alloc (.cells #[.int .i64 (P i).c, .int .u8 (P i).r] 30)).cell? ⟨w5.heap.size, 1, none⟩ = some (.int .u8 (P i).r) := vcell_new rfl
            have E0 := vcell_alloc (vcell hb5 E0) (.cells #[.int .i64 (P i).c, .int .u8 (P i).r] 30)
            have E1 := vcell_alloc (vcell hb5 E1) (.cells #[.int .i64 (P i).c, .int .u8 (P i).r] 30)
            have E2 := vcell_alloc (vcell hb5 E2) (.cells #[.int .i64 (P i).c, .int .u8 (P i).r] 30)
            clear S4
            go_wp2
            have qn0 := gw_cell N0
            have qn1 := gw_cell N1
            have qe0 := gw_cell E0
            have qe1 := gw_cell E1
            have qe2 := gw_cell E2
            refine wp_region_quietB (by kernel_rfl) (by kernel_rfl) ?_
            repeat (first | go_big_quiet_step (fail) | quiet_step (fail))
            refine wpQuiet_nil ?_
            rintro w9 ⟨⟨wq_, hb9⟩, hwq_⟩
            obtain rfl : w9 = wq_ := hwq_
            have S9 := S5.below hb9
            have E0 := vcell hb9 E0
            have E9 := World.block_lt_of_cell? _ _ E0
            clear qn0 qn1 qe0 qe1 qe2 N0 N1 E1 E2 S5
            cases kn with
            | true =>
              go_wp2
              go_roundw
              case rel => exact ⟨j + 1, true, by omega, by go_num, rfl, ⟨by rw [HS.out, Bool.true_or]⟩, S9⟩
              case measure => simp [intOf]; omega
            | false =>
              by_cases heq : hd P i = hx
              · have hb1 : (hd P i == hx) = true := beq_iff_eq.2 heq
                have hb2 : decide (hd P i = hx) = true := decide_eq_true heq
                go_wp2
                go_roundw
                case rel => exact ⟨j + 1, true, by omega, by go_num, rfl, ⟨by rw [HS.out, hb1]; rfl⟩, S9⟩
                case measure => simp [intOf]; omega
              · have hb1 : (hd P i == hx) = false := beq_eq_false_iff_ne.2 heq
                have hb2 : decide (hd P i = hx) = false := decide_eq_false heq
                go_wp2
                go_roundw
                case rel => exact ⟨j + 1, false, by omega, by go_num, rfl, ⟨by rw [HS.out, hb1]; rfl⟩, S9⟩
                case measure => simp [intOf]; omega
          · obtain rfl : j = T.length := by omega
            have hkn := find_known S4.ok I hx
            rw [← HT.out] at hkn
            have hkn2 := HK.out
            rw [List.take_of_length_le (Nat.le_refl _), ← hkn] at hkn2
            obtain ⟨fc, fr, fb, hf⟩ : ∃ fc fr fb, findF P 32 hx = (fc, fr, fb) := ⟨_, _, _, rfl⟩
            rw [hf] at hkn2
            dsimp only at hkn2
            subst hkn2
            clear hkn HK
            go_wp2_with fail
            refine (find13' _ w.heap.size P 32 (by decide) S4.ok S4.tab hx h0 h1).mono ?_
            rw [hf]
            rintro e w5 ⟨rfl, T5, hb5⟩
            have S5 := (S4.below hb5).alloc (.cells #[.int .i64 fc, .int .u8 fr] 30)
            go_wp2_with fail
            refine (live17 _ w.heap.size P 32 (by decide) S5.ok S5.tab).mono ?_
            rintro e w6 ⟨vl, rfl, HR6, hb6⟩
            obtain ⟨Ao, co, rfl⟩ := Kd.R_slice HR6
            rw [(live_len I).trans HTl.out.symm]
            have S6 := S5.below hb6
            clear S4 S5 S hf HR6
            go_wp2_with fail
            refine (alive10 _).mono ?_
            rintro e w7 ⟨rfl, hb7⟩
            go_wp2
            go_ret
            exact ⟨by cases kn <;> rfl, vbelow_step S6.low hb7⟩
end Go.Proofs.Ytcpaakhmcpeagaa.Q
