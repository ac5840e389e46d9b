/- Layer 11: the walk of the law CapabNever. -/
import Derived.Test.YtcpaakhmcpeagaaC18
import Derived.Test.YtcpaakhmcpeagaaC10
namespace Go.Proofs.Ytcpaakhmcpeagaa.Q
open Go.RowKit Go.Proofs.YtcpaakhmcpeagaaW.PrintWords Go.Proofs.YtcpaakhmcpeagaaW.PrintMore
set_option linter.unusedVariables false
set_option linter.unusedSimpArgs false
theorem inv_nil (P : Nat → Pl) : Inv P [] [] := ⟨fun x hx => absurd hx List.not_mem_nil, fun x hx => absurd hx List.not_mem_nil⟩
set_option maxHeartbeats 8000000 in
set_option maxRecDepth 100000 in
theorem never3 (w : World) (n : Nat) (hn : n ≤ 32) (A : Option Addr) (c : Nat) (ops : List Oq) (hO : OpsAt w A ops) (hc : ops.length ≤ 9223372036854775807) : Calls Try.prog 3 #[.int .i64 n, .slice A ops.length c] w fun e w' => e = .returned (.bool true) ∧ Below w.heap.size w w' := by
  go_enter Try.func3, Try.ntmps3
  go_wp2_with fail
  refine (new9' _ n hn).mono ?_
  rintro e w1 ⟨rfl, T1, hb1⟩
  go_wp2
  go_loopw [7, 8, 9] (fun v7 v8 v9 wr => ∃ (k : Nat) (P : Nat → Pl) (told dead : List Int), v9 = .int .i64 k ∧ k ≤ 80 ∧ told.length ≤ k ∧ dead.length ≤ k ∧ NS w n wr P v7 v8 told dead ∧ Inv P told dead) (fun _ _ v9 _ => 81 - (intOf v9).toNat)
  case atStart => exact ⟨0, freshP, [], [], rfl, by omega, by simp, by simp, NS.start w1 T1 freshP_ok hb1, inv_nil freshP⟩
  case round =>
    obtain ⟨k, P, told, dead, rfl, hk, hlt7, hlt8, S, I⟩ := hrel
    by_cases hlt : k < ops.length ∧ k < 80
    · obtain ⟨ad, o, ho_, hfine, rfl, C0, C1, C2, C3, C4⟩ := (hO.below S.low).get k hlt.1
      obtain ⟨A7, c7, e7⟩ := Kd.R_slice S.r7
      subst e7
      obtain ⟨A8, c8, e8⟩ := Kd.R_slice S.r8
      subst e8
      obtain ⟨f0, f1, f2, f3⟩ := hfine
      clear ho_
      have hk0 : (0 : Int) ≤ (k : Int) := by omega
      have hkl : (k : Int) < (ops.length : Int) := by omega
      have hd1 : decide ((k : Int) < (ops.length : Int)) = true := decide_eq_true hkl
      have hd2 : decide ((k : Int) < 80) = true := decide_eq_true (by omega)
      by_cases hk1 : o.kd = 1
      · rw [hk1] at C0
        go_wp2_with fail
        refine (mint11 _ w.heap.size P n hn S.ok (S.tab.alloc _) o.ch o.r f0 f1).mono ?_
        obtain ⟨mh, me, mP, hm⟩ : ∃ mh me mP, mintF P n o.ch o.r = (mh, me, mP) := ⟨_, _, _, rfl⟩
        have okm := mintF_ok S.ok n o.ch o.r f0 f1
        rw [hm] at okm ⊢
        dsimp only at okm ⊢
        rintro e w2 ⟨rfl, T2, O2⟩
        have S2 := (S.alloc _).only O2 T2 okm
        clear O2 T2
        by_cases he : me = 0
        · subst he
          obtain ⟨hnew, hmb, I2⟩ := inv_mint S.ok hn f0 f1 I (by rw [hm])
          rw [hm] at hnew hmb I2
          dsimp only at hnew hmb I2
          clear S I hm C0 C1 C2 C3 C4
          go_wp2
          go_loopw [13] (fun v13 wr2 => wr2 = w2 ∧ ∃ j : Nat, j ≤ told.length ∧ v13 = .int .i64 j) (fun v13 _ => told.length + 1 - (intOf v13).toNat)
          case atStart => exact ⟨rfl, 0, Nat.zero_le _, rfl⟩
          case round =>
            obtain ⟨hww, j, hj, rfl⟩ := hrel
            subst hww
            by_cases hjl : j < told.length
            · obtain ⟨ad7, x7, rfl, hx7, E7⟩ := R_at S2.r7 j hjl
              have hne := hnew x7 (List.mem_of_getElem? hx7)
              have hnd : decide (x7 = mh) = false := decide_eq_false hne
              have hnb : (x7 == mh) = false := beq_eq_false_iff_ne.2 hne
              have hj0 : (0 : Int) ≤ (j : Int) := by omega
              have hj1 : (j : Int) < (told.length : Int) := by omega
              have hj2 : decide ((j : Int) < (told.length : Int)) = true := decide_eq_true hj1
              go_wp2
              go_roundw
              case rel => exact ⟨by first | trivial | rfl, j + 1, by omega, by go_num⟩
              case measure => simp [intOf]; omega
            · obtain rfl : j = told.length := by omega
              go_wp2_with ((with_reducible refine gate_builtin (b := .append) (xs := #[.tmp 77, .tmp 79]) rfl ?_); at_builtin; refine Kd.R_append (Kd.int .u32) (w0 := w) w.heap.size rfl (.tmp 77) (.tmp 79) 28 31 (.int .u32 0) 4 rfl Try.underlying28 info31' rfl (by decide) (by omega) (.slice A7 told.length c7) told mh [.int .u32 mh] (fun _ => True) (fun _ => False) rfl rfl ?aP (fun _ hk => hk.elim) ?aF ?aO ?aB ?aS ?aL ?_; (case aP => exact rfl); (case aB => exact S2.low); (case aF => exact (fun _ _ => trivial)); (case aO => exact S2.r7); (case aS => exact S2.low.size); (case aL => omega); intro v7n w4 ho hb4 hg4 hat4)
              have S3 := S2.app7 ho hb4 hg4 hat4
              clear ho hg4 hat4 hb4 S2
              have hle : (told ++ [mh]).length ≤ k + 1 := by rw [List.length_append, List.length_singleton]; omega
              go_loopw [15] (fun v15 wr3 => ∃ j : Nat, j ≤ (dead).length ∧ v15 = .int .i64 j ∧ NS w n wr3 mP v7n (.slice A8 (dead).length c8) (told ++ [mh]) (dead)) (fun v15 _ => (dead).length + 1 - (intOf v15).toNat)
              case atStart => exact ⟨0, Nat.zero_le _, rfl, S3⟩
              case round =>
                obtain ⟨j, hj, rfl, S4⟩ := hrel
                by_cases hjl : j < (dead).length
                · obtain ⟨ad8, x8, rfl, hx8, E8⟩ := R_at S4.r8 j hjl
                  have hG := I2.dead x8 (List.mem_of_getElem? hx8)
                  have hj0 : (0 : Int) ≤ (j : Int) := by omega
                  have hj1 : (j : Int) < ((dead).length : Int) := by omega
                  have hj2 : decide ((j : Int) < ((dead).length : Int)) = true := decide_eq_true hj1
                  go_wp2_with fail
                  refine (find13' _ w.heap.size mP n hn S4.ok S4.tab x8 hG.1 hG.2.1).mono ?_
                  rw [gone_find S4.ok hG]
                  rintro e w5 ⟨rfl, T5, hb5⟩
                  have S5 := S4.below hb5
                  have E5 := vcell hb5 E8
                  have E5a := vcell_alloc E5 (.cells #[.int .i64 0, .int .u8 0] 30)
                  have E5b := World.block_lt_of_cell? _ _ E5
                  clear E8 S4
                  go_wp2_with fail
                  refine (drop12 _ w.heap.size mP n hn S5.ok (S5.tab.alloc _) x8 hG.1 hG.2.1).mono ?_
                  rw [gone_drop S5.ok hG]
                  rintro e w6 ⟨rfl, T6, O6⟩
                  have S6 := (S5.alloc _).only O6 T6 S5.ok
                  clear S5 E5 E5a E5b
                  go_wp2
                  go_roundw
                  case rel => exact ⟨j + 1, by omega, by go_num, S6⟩
                  case measure => simp [intOf]; omega
                · obtain rfl : j = (dead).length := by omega
                  go_wp2
                  go_roundw
                  case rel => exact ⟨k + 1, mP, (told ++ [mh]), dead, by go_num, by omega, hle, by omega, S4, I2⟩
                  case measure => simp [intOf]; omega
        · have hm2 := mint_not (P := P) (n := n) (c := o.ch) (r := o.r) (by rw [hm]; exact he)
          rw [hm] at hm2
          dsimp only at hm2
          subst hm2
          have hed : decide (me = 0) = false := decide_eq_false he
          have heb : (me == 0) = false := beq_eq_false_iff_ne.2 he
          have hen : (me != 0) = true := bne_iff_ne.2 he
          go_wp2
          go_roundw
          case rel => exact ⟨k + 1, _, told, dead, by go_num, by omega, by omega, by omega, S2, I⟩
          case measure => simp [intOf]; omega
      · by_cases hk2 : o.kd = 2
        · rw [hk2] at C0
          go_wp2_with fail
          refine (drop12 _ w.heap.size P n hn S.ok (S.tab.alloc _) o.h f2 f3).mono ?_
          obtain ⟨de, dP, hm⟩ : ∃ de dP, dropF P n o.h = (de, dP) := ⟨_, _, rfl⟩
          have okd := dropF_ok S.ok n o.h
          rw [hm] at okd ⊢
          dsimp only at okd ⊢
          rintro e w2 ⟨rfl, T2, O2⟩
          have S2 := (S.alloc _).only O2 T2 okd
          clear O2 T2
          by_cases he : de = 0
          · subst he
            have I2 := inv_drop S.ok hn f2 f3 I (by rw [hm])
            rw [hm] at I2
            dsimp only at I2
            clear S I hm
            try clear C0 C1 C2 C3 C4
            go_wp2_with ((with_reducible refine gate_builtin (b := .append) (xs := #[.tmp 110, .tmp 112]) rfl ?_); at_builtin; refine Kd.R_append (Kd.int .u32) (w0 := w) w.heap.size rfl (.tmp 110) (.tmp 112) 28 31 (.int .u32 0) 4 rfl Try.underlying28 info31' rfl (by decide) (by omega) (.slice A8 dead.length c8) dead o.h [.int .u32 o.h] (fun _ => True) (fun _ => False) rfl rfl ?aP (fun _ hk => hk.elim) ?aF ?aO ?aB ?aS ?aL ?_; (case aP => exact rfl); (case aB => exact S2.low); (case aF => exact (fun _ _ => trivial)); (case aO => exact S2.r8); (case aS => exact S2.low.size); (case aL => omega); intro v8y w4 ho hb4 hg4 hat4)
            have S3 := S2.app8 ho hb4 hg4 hat4
            clear ho hg4 hat4 hb4 S2
            have hle : (dead ++ [o.h]).length ≤ k + 1 := by rw [List.length_append, List.length_singleton]; omega
            obtain ⟨D, hD⟩ : ∃ D, D = dead ++ [o.h] := ⟨_, rfl⟩
            rw [← hD] at S3 I2 hle
            clear hD
            obtain ⟨A8, c8, rfl⟩ := Kd.R_slice S3.r8
            go_loopw [15] (fun v15 wr3 => ∃ j : Nat, j ≤ (D).length ∧ v15 = .int .i64 j ∧ NS w n wr3 dP (.slice A7 told.length c7) (.slice A8 (D).length c8) told (D)) (fun v15 _ => (D).length + 1 - (intOf v15).toNat)
            case atStart => exact ⟨0, Nat.zero_le _, rfl, S3⟩
            case round =>
              obtain ⟨j, hj, rfl, S4⟩ := hrel
              by_cases hjl : j < (D).length
              · obtain ⟨ad8, x8, rfl, hx8, E8⟩ := R_at S4.r8 j hjl
                have hG := I2.dead x8 (List.mem_of_getElem? hx8)
                have hj0 : (0 : Int) ≤ (j : Int) := by omega
                have hj1 : (j : Int) < ((D).length : Int) := by omega
                have hj2 : decide ((j : Int) < ((D).length : Int)) = true := decide_eq_true hj1
                go_wp2_with fail
                refine (find13' _ w.heap.size dP n hn S4.ok S4.tab x8 hG.1 hG.2.1).mono ?_
                rw [gone_find S4.ok hG]
                rintro e w5 ⟨rfl, T5, hb5⟩
                have S5 := S4.below hb5
                have E5 := vcell hb5 E8
                have E5a := vcell_alloc E5 (.cells #[.int .i64 0, .int .u8 0] 30)
                have E5b := World.block_lt_of_cell? _ _ E5
                clear E8 S4
                go_wp2_with fail
                refine (drop12 _ w.heap.size dP n hn S5.ok (S5.tab.alloc _) x8 hG.1 hG.2.1).mono ?_
                rw [gone_drop S5.ok hG]
                rintro e w6 ⟨rfl, T6, O6⟩
                have S6 := (S5.alloc _).only O6 T6 S5.ok
                clear S5 E5 E5a E5b
                go_wp2
                go_roundw
                case rel => exact ⟨j + 1, by omega, by go_num, S6⟩
                case measure => simp [intOf]; omega
              · obtain rfl : j = (D).length := by omega
                go_wp2
                go_roundw
                case rel => exact ⟨k + 1, dP, told, D, by go_num, by omega, by omega, hle, S4, I2⟩
                case measure => simp [intOf]; omega
          · have hm2 := drop_not (P := P) (n := n) (x := o.h) (by rw [hm]; exact he)
            rw [hm] at hm2
            obtain ⟨rfl, rfl⟩ : de = 111 ∧ dP = P := by injection hm2 with h1 h2; exact ⟨h1, h2⟩
            clear S hm hm2
            try clear C0 C1 C2 C3 C4
            go_wp2
            go_loopw [15] (fun v15 wr3 => ∃ j : Nat, j ≤ (dead).length ∧ v15 = .int .i64 j ∧ NS w n wr3 dP (.slice A7 told.length c7) (.slice A8 (dead).length c8) told (dead)) (fun v15 _ => (dead).length + 1 - (intOf v15).toNat)
            case atStart => exact ⟨0, Nat.zero_le _, rfl, S2⟩
            case round =>
              obtain ⟨j, hj, rfl, S4⟩ := hrel
              by_cases hjl : j < (dead).length
              · obtain ⟨ad8, x8, rfl, hx8, E8⟩ := R_at S4.r8 j hjl
                have hG := I.dead x8 (List.mem_of_getElem? hx8)
                have hj0 : (0 : Int) ≤ (j : Int) := by omega
                have hj1 : (j : Int) < ((dead).length : Int) := by omega
                have hj2 : decide ((j : Int) < ((dead).length : Int)) = true := decide_eq_true hj1
                go_wp2_with fail
                refine (find13' _ w.heap.size dP n hn S4.ok S4.tab x8 hG.1 hG.2.1).mono ?_
                rw [gone_find S4.ok hG]
                rintro e w5 ⟨rfl, T5, hb5⟩
                have S5 := S4.below hb5
                have E5 := vcell hb5 E8
                have E5a := vcell_alloc E5 (.cells #[.int .i64 0, .int .u8 0] 30)
                have E5b := World.block_lt_of_cell? _ _ E5
                clear E8 S4
                go_wp2_with fail
                refine (drop12 _ w.heap.size dP n hn S5.ok (S5.tab.alloc _) x8 hG.1 hG.2.1).mono ?_
                rw [gone_drop S5.ok hG]
                rintro e w6 ⟨rfl, T6, O6⟩
                have S6 := (S5.alloc _).only O6 T6 S5.ok
                clear S5 E5 E5a E5b
                go_wp2
                go_roundw
                case rel => exact ⟨j + 1, by omega, by go_num, S6⟩
                case measure => simp [intOf]; omega
              · obtain rfl : j = (dead).length := by omega
                go_wp2
                go_roundw
                case rel => exact ⟨k + 1, dP, told, dead, by go_num, by omega, by omega, by omega, S4, I⟩
                case measure => simp [intOf]; omega
        · by_cases hk3 : o.kd = 3
          · by_cases hkl2 : o.k < 0
            · rw [hk3] at C0
              have hkn : decide (0 ≤ o.k) = false := decide_eq_false (by omega)
              go_wp2_with fail
              refine (drop12 _ w.heap.size P n hn S.ok (S.tab.alloc _) o.h f2 f3).mono ?_
              obtain ⟨de, dP, hm⟩ : ∃ de dP, dropF P n o.h = (de, dP) := ⟨_, _, rfl⟩
              have okd := dropF_ok S.ok n o.h
              rw [hm] at okd ⊢
              dsimp only at okd ⊢
              rintro e w2 ⟨rfl, T2, O2⟩
              have S2 := (S.alloc _).only O2 T2 okd
              clear O2 T2
              by_cases he : de = 0
              · subst he
                have I2 := inv_drop S.ok hn f2 f3 I (by rw [hm])
                rw [hm] at I2
                dsimp only at I2
                clear S I hm
                try clear C0 C1 C2 C3 C4
                go_wp2_with ((with_reducible refine gate_builtin (b := .append) (xs := #[.tmp 110, .tmp 112]) rfl ?_); at_builtin; refine Kd.R_append (Kd.int .u32) (w0 := w) w.heap.size rfl (.tmp 110) (.tmp 112) 28 31 (.int .u32 0) 4 rfl Try.underlying28 info31' rfl (by decide) (by omega) (.slice A8 dead.length c8) dead o.h [.int .u32 o.h] (fun _ => True) (fun _ => False) rfl rfl ?aP (fun _ hk => hk.elim) ?aF ?aO ?aB ?aS ?aL ?_; (case aP => exact rfl); (case aB => exact S2.low); (case aF => exact (fun _ _ => trivial)); (case aO => exact S2.r8); (case aS => exact S2.low.size); (case aL => omega); intro v8y w4 ho hb4 hg4 hat4)
                have S3 := S2.app8 ho hb4 hg4 hat4
                clear ho hg4 hat4 hb4 S2
                have hle : (dead ++ [o.h]).length ≤ k + 1 := by rw [List.length_append, List.length_singleton]; omega
                obtain ⟨D, hD⟩ : ∃ D, D = dead ++ [o.h] := ⟨_, rfl⟩
                rw [← hD] at S3 I2 hle
                clear hD
                obtain ⟨A8, c8, rfl⟩ := Kd.R_slice S3.r8
                go_loopw [15] (fun v15 wr3 => ∃ j : Nat, j ≤ (D).length ∧ v15 = .int .i64 j ∧ NS w n wr3 dP (.slice A7 told.length c7) (.slice A8 (D).length c8) told (D)) (fun v15 _ => (D).length + 1 - (intOf v15).toNat)
                case atStart => exact ⟨0, Nat.zero_le _, rfl, S3⟩
                case round =>
                  obtain ⟨j, hj, rfl, S4⟩ := hrel
                  by_cases hjl : j < (D).length
                  · obtain ⟨ad8, x8, rfl, hx8, E8⟩ := R_at S4.r8 j hjl
                    have hG := I2.dead x8 (List.mem_of_getElem? hx8)
                    have hj0 : (0 : Int) ≤ (j : Int) := by omega
                    have hj1 : (j : Int) < ((D).length : Int) := by omega
                    have hj2 : decide ((j : Int) < ((D).length : Int)) = true := decide_eq_true hj1
                    go_wp2_with fail
                    refine (find13' _ w.heap.size dP n hn S4.ok S4.tab x8 hG.1 hG.2.1).mono ?_
                    rw [gone_find S4.ok hG]
                    rintro e w5 ⟨rfl, T5, hb5⟩
                    have S5 := S4.below hb5
                    have E5 := vcell hb5 E8
                    have E5a := vcell_alloc E5 (.cells #[.int .i64 0, .int .u8 0] 30)
                    have E5b := World.block_lt_of_cell? _ _ E5
                    clear E8 S4
                    go_wp2_with fail
                    refine (drop12 _ w.heap.size dP n hn S5.ok (S5.tab.alloc _) x8 hG.1 hG.2.1).mono ?_
                    rw [gone_drop S5.ok hG]
                    rintro e w6 ⟨rfl, T6, O6⟩
                    have S6 := (S5.alloc _).only O6 T6 S5.ok
                    clear S5 E5 E5a E5b
                    go_wp2
                    go_roundw
                    case rel => exact ⟨j + 1, by omega, by go_num, S6⟩
                    case measure => simp [intOf]; omega
                  · obtain rfl : j = (D).length := by omega
                    go_wp2
                    go_roundw
                    case rel => exact ⟨k + 1, dP, told, D, by go_num, by omega, by omega, hle, S4, I2⟩
                    case measure => simp [intOf]; omega
              · have hm2 := drop_not (P := P) (n := n) (x := o.h) (by rw [hm]; exact he)
                rw [hm] at hm2
                obtain ⟨rfl, rfl⟩ : de = 111 ∧ dP = P := by injection hm2 with h1 h2; exact ⟨h1, h2⟩
                clear S hm hm2
                try clear C0 C1 C2 C3 C4
                go_wp2
                go_loopw [15] (fun v15 wr3 => ∃ j : Nat, j ≤ (dead).length ∧ v15 = .int .i64 j ∧ NS w n wr3 dP (.slice A7 told.length c7) (.slice A8 (dead).length c8) told (dead)) (fun v15 _ => (dead).length + 1 - (intOf v15).toNat)
                case atStart => exact ⟨0, Nat.zero_le _, rfl, S2⟩
                case round =>
                  obtain ⟨j, hj, rfl, S4⟩ := hrel
                  by_cases hjl : j < (dead).length
                  · obtain ⟨ad8, x8, rfl, hx8, E8⟩ := R_at S4.r8 j hjl
                    have hG := I.dead x8 (List.mem_of_getElem? hx8)
                    have hj0 : (0 : Int) ≤ (j : Int) := by omega
                    have hj1 : (j : Int) < ((dead).length : Int) := by omega
                    have hj2 : decide ((j : Int) < ((dead).length : Int)) = true := decide_eq_true hj1
                    go_wp2_with fail
                    refine (find13' _ w.heap.size dP n hn S4.ok S4.tab x8 hG.1 hG.2.1).mono ?_
                    rw [gone_find S4.ok hG]
                    rintro e w5 ⟨rfl, T5, hb5⟩
                    have S5 := S4.below hb5
                    have E5 := vcell hb5 E8
                    have E5a := vcell_alloc E5 (.cells #[.int .i64 0, .int .u8 0] 30)
                    have E5b := World.block_lt_of_cell? _ _ E5
                    clear E8 S4
                    go_wp2_with fail
                    refine (drop12 _ w.heap.size dP n hn S5.ok (S5.tab.alloc _) x8 hG.1 hG.2.1).mono ?_
                    rw [gone_drop S5.ok hG]
                    rintro e w6 ⟨rfl, T6, O6⟩
                    have S6 := (S5.alloc _).only O6 T6 S5.ok
                    clear S5 E5 E5a E5b
                    go_wp2
                    go_roundw
                    case rel => exact ⟨j + 1, by omega, by go_num, S6⟩
                    case measure => simp [intOf]; omega
                  · obtain rfl : j = (dead).length := by omega
                    go_wp2
                    go_roundw
                    case rel => exact ⟨k + 1, dP, told, dead, by go_num, by omega, by omega, by omega, S4, I⟩
                    case measure => simp [intOf]; omega
            · by_cases hkh : o.k < (told.length : Int)
              · rw [hk3] at C0
                obtain ⟨q, hq⟩ : ∃ q : Nat, o.k = (q : Int) := ⟨o.k.toNat, by omega⟩
                rw [hq] at C4
                obtain ⟨ad7, x7, rfl, hx7, E7⟩ := R_at S.r7 q (by omega)
                have hU := I.told x7 (List.mem_of_getElem? hx7)
                have E7a := vcell_alloc E7 (.cells #[.int .i64 3, .int .i64 o.ch, .int .u8 o.r, .int .u32 o.h, .int .i64 (q : Int)] 33)
                have E7b := World.block_lt_of_cell? _ _ E7
                have hq0 : (0 : Int) ≤ (q : Int) := by omega
                have hq1 : (q : Int) < (told.length : Int) := by omega
                have hq2 : decide ((q : Int) < (told.length : Int)) = true := decide_eq_true hq1
                go_wp2_with fail
                refine (drop12 _ w.heap.size P n hn S.ok (S.tab.alloc _) x7 hU.1 hU.2.1).mono ?_
                obtain ⟨de, dP, hm⟩ : ∃ de dP, dropF P n x7 = (de, dP) := ⟨_, _, rfl⟩
                have okd := dropF_ok S.ok n x7
                rw [hm] at okd ⊢
                dsimp only at okd ⊢
                rintro e w2 ⟨rfl, T2, O2⟩
                have S2 := (S.alloc _).only O2 T2 okd
                clear O2 T2
                by_cases he : de = 0
                · subst he
                  have I2 := inv_drop S.ok hn hU.1 hU.2.1 I (by rw [hm])
                  rw [hm] at I2
                  dsimp only at I2
                  clear S I hm
                  clear E7 E7a E7b
                  try clear C0 C1 C2 C3 C4
                  go_wp2_with ((with_reducible refine gate_builtin (b := .append) (xs := #[.tmp 110, .tmp 112]) rfl ?_); at_builtin; refine Kd.R_append (Kd.int .u32) (w0 := w) w.heap.size rfl (.tmp 110) (.tmp 112) 28 31 (.int .u32 0) 4 rfl Try.underlying28 info31' rfl (by decide) (by omega) (.slice A8 dead.length c8) dead x7 [.int .u32 x7] (fun _ => True) (fun _ => False) rfl rfl ?aP (fun _ hk => hk.elim) ?aF ?aO ?aB ?aS ?aL ?_; (case aP => exact rfl); (case aB => exact S2.low); (case aF => exact (fun _ _ => trivial)); (case aO => exact S2.r8); (case aS => exact S2.low.size); (case aL => omega); intro v8y w4 ho hb4 hg4 hat4)
                  have S3 := S2.app8 ho hb4 hg4 hat4
                  clear ho hg4 hat4 hb4 S2
                  have hle : (dead ++ [x7]).length ≤ k + 1 := by rw [List.length_append, List.length_singleton]; omega
                  obtain ⟨D, hD⟩ : ∃ D, D = dead ++ [x7] := ⟨_, rfl⟩
                  rw [← hD] at S3 I2 hle
                  clear hD
                  obtain ⟨A8, c8, rfl⟩ := Kd.R_slice S3.r8
                  go_loopw [15] (fun v15 wr3 => ∃ j : Nat, j ≤ (D).length ∧ v15 = .int .i64 j ∧ NS w n wr3 dP (.slice (some ad7) told.length c7) (.slice A8 (D).length c8) told (D)) (fun v15 _ => (D).length + 1 - (intOf v15).toNat)
                  case atStart => exact ⟨0, Nat.zero_le _, rfl, S3⟩
                  case round =>
                    obtain ⟨j, hj, rfl, S4⟩ := hrel
                    by_cases hjl : j < (D).length
                    · obtain ⟨ad8, x8, rfl, hx8, E8⟩ := R_at S4.r8 j hjl
                      have hG := I2.dead x8 (List.mem_of_getElem? hx8)
                      have hj0 : (0 : Int) ≤ (j : Int) := by omega
                      have hj1 : (j : Int) < ((D).length : Int) := by omega
                      have hj2 : decide ((j : Int) < ((D).length : Int)) = true := decide_eq_true hj1
                      go_wp2_with fail
                      refine (find13' _ w.heap.size dP n hn S4.ok S4.tab x8 hG.1 hG.2.1).mono ?_
                      rw [gone_find S4.ok hG]
                      rintro e w5 ⟨rfl, T5, hb5⟩
                      have S5 := S4.below hb5
                      have E5 := vcell hb5 E8
                      have E5a := vcell_alloc E5 (.cells #[.int .i64 0, .int .u8 0] 30)
                      have E5b := World.block_lt_of_cell? _ _ E5
                      clear E8 S4
                      go_wp2_with fail
                      refine (drop12 _ w.heap.size dP n hn S5.ok (S5.tab.alloc _) x8 hG.1 hG.2.1).mono ?_
                      rw [gone_drop S5.ok hG]
                      rintro e w6 ⟨rfl, T6, O6⟩
                      have S6 := (S5.alloc _).only O6 T6 S5.ok
                      clear S5 E5 E5a E5b
                      go_wp2
                      go_roundw
                      case rel => exact ⟨j + 1, by omega, by go_num, S6⟩
                      case measure => simp [intOf]; omega
                    · obtain rfl : j = (D).length := by omega
                      go_wp2
                      go_roundw
                      case rel => exact ⟨k + 1, dP, told, D, by go_num, by omega, by omega, hle, S4, I2⟩
                      case measure => simp [intOf]; omega
                · have hm2 := drop_not (P := P) (n := n) (x := x7) (by rw [hm]; exact he)
                  rw [hm] at hm2
                  obtain ⟨rfl, rfl⟩ : de = 111 ∧ dP = P := by injection hm2 with h1 h2; exact ⟨h1, h2⟩
                  clear S hm hm2
                  try clear C0 C1 C2 C3 C4
                  go_wp2
                  go_loopw [15] (fun v15 wr3 => ∃ j : Nat, j ≤ (dead).length ∧ v15 = .int .i64 j ∧ NS w n wr3 dP (.slice (some ad7) told.length c7) (.slice A8 (dead).length c8) told (dead)) (fun v15 _ => (dead).length + 1 - (intOf v15).toNat)
                  case atStart => exact ⟨0, Nat.zero_le _, rfl, S2⟩
                  case round =>
                    obtain ⟨j, hj, rfl, S4⟩ := hrel
                    by_cases hjl : j < (dead).length
                    · obtain ⟨ad8, x8, rfl, hx8, E8⟩ := R_at S4.r8 j hjl
                      have hG := I.dead x8 (List.mem_of_getElem? hx8)
                      have hj0 : (0 : Int) ≤ (j : Int) := by omega
                      have hj1 : (j : Int) < ((dead).length : Int) := by omega
                      have hj2 : decide ((j : Int) < ((dead).length : Int)) = true := decide_eq_true hj1
                      go_wp2_with fail
                      refine (find13' _ w.heap.size dP n hn S4.ok S4.tab x8 hG.1 hG.2.1).mono ?_
                      rw [gone_find S4.ok hG]
                      rintro e w5 ⟨rfl, T5, hb5⟩
                      have S5 := S4.below hb5
                      have E5 := vcell hb5 E8
                      have E5a := vcell_alloc E5 (.cells #[.int .i64 0, .int .u8 0] 30)
                      have E5b := World.block_lt_of_cell? _ _ E5
                      clear E8 S4
                      go_wp2_with fail
                      refine (drop12 _ w.heap.size dP n hn S5.ok (S5.tab.alloc _) x8 hG.1 hG.2.1).mono ?_
                      rw [gone_drop S5.ok hG]
                      rintro e w6 ⟨rfl, T6, O6⟩
                      have S6 := (S5.alloc _).only O6 T6 S5.ok
                      clear S5 E5 E5a E5b
                      go_wp2
                      go_roundw
                      case rel => exact ⟨j + 1, by omega, by go_num, S6⟩
                      case measure => simp [intOf]; omega
                    · obtain rfl : j = (dead).length := by omega
                      go_wp2
                      go_roundw
                      case rel => exact ⟨k + 1, dP, told, dead, by go_num, by omega, by omega, by omega, S4, I⟩
                      case measure => simp [intOf]; omega
              · rw [hk3] at C0
                have hkn : decide (0 ≤ o.k) = true := decide_eq_true (by omega)
                have hkm : decide (o.k < (told.length : Int)) = false := decide_eq_false (by omega)
                go_wp2_with fail
                refine (drop12 _ w.heap.size P n hn S.ok (S.tab.alloc _) o.h f2 f3).mono ?_
                obtain ⟨de, dP, hm⟩ : ∃ de dP, dropF P n o.h = (de, dP) := ⟨_, _, rfl⟩
                have okd := dropF_ok S.ok n o.h
                rw [hm] at okd ⊢
                dsimp only at okd ⊢
                rintro e w2 ⟨rfl, T2, O2⟩
                have S2 := (S.alloc _).only O2 T2 okd
                clear O2 T2
                by_cases he : de = 0
                · subst he
                  have I2 := inv_drop S.ok hn f2 f3 I (by rw [hm])
                  rw [hm] at I2
                  dsimp only at I2
                  clear S I hm
                  try clear C0 C1 C2 C3 C4
                  go_wp2_with ((with_reducible refine gate_builtin (b := .append) (xs := #[.tmp 110, .tmp 112]) rfl ?_); at_builtin; refine Kd.R_append (Kd.int .u32) (w0 := w) w.heap.size rfl (.tmp 110) (.tmp 112) 28 31 (.int .u32 0) 4 rfl Try.underlying28 info31' rfl (by decide) (by omega) (.slice A8 dead.length c8) dead o.h [.int .u32 o.h] (fun _ => True) (fun _ => False) rfl rfl ?aP (fun _ hk => hk.elim) ?aF ?aO ?aB ?aS ?aL ?_; (case aP => exact rfl); (case aB => exact S2.low); (case aF => exact (fun _ _ => trivial)); (case aO => exact S2.r8); (case aS => exact S2.low.size); (case aL => omega); intro v8y w4 ho hb4 hg4 hat4)
                  have S3 := S2.app8 ho hb4 hg4 hat4
                  clear ho hg4 hat4 hb4 S2
                  have hle : (dead ++ [o.h]).length ≤ k + 1 := by rw [List.length_append, List.length_singleton]; omega
                  obtain ⟨D, hD⟩ : ∃ D, D = dead ++ [o.h] := ⟨_, rfl⟩
                  rw [← hD] at S3 I2 hle
                  clear hD
                  obtain ⟨A8, c8, rfl⟩ := Kd.R_slice S3.r8
                  go_loopw [15] (fun v15 wr3 => ∃ j : Nat, j ≤ (D).length ∧ v15 = .int .i64 j ∧ NS w n wr3 dP (.slice A7 told.length c7) (.slice A8 (D).length c8) told (D)) (fun v15 _ => (D).length + 1 - (intOf v15).toNat)
                  case atStart => exact ⟨0, Nat.zero_le _, rfl, S3⟩
                  case round =>
                    obtain ⟨j, hj, rfl, S4⟩ := hrel
                    by_cases hjl : j < (D).length
                    · obtain ⟨ad8, x8, rfl, hx8, E8⟩ := R_at S4.r8 j hjl
                      have hG := I2.dead x8 (List.mem_of_getElem? hx8)
                      have hj0 : (0 : Int) ≤ (j : Int) := by omega
                      have hj1 : (j : Int) < ((D).length : Int) := by omega
                      have hj2 : decide ((j : Int) < ((D).length : Int)) = true := decide_eq_true hj1
                      go_wp2_with fail
                      refine (find13' _ w.heap.size dP n hn S4.ok S4.tab x8 hG.1 hG.2.1).mono ?_
                      rw [gone_find S4.ok hG]
                      rintro e w5 ⟨rfl, T5, hb5⟩
                      have S5 := S4.below hb5
                      have E5 := vcell hb5 E8
                      have E5a := vcell_alloc E5 (.cells #[.int .i64 0, .int .u8 0] 30)
                      have E5b := World.block_lt_of_cell? _ _ E5
                      clear E8 S4
                      go_wp2_with fail
                      refine (drop12 _ w.heap.size dP n hn S5.ok (S5.tab.alloc _) x8 hG.1 hG.2.1).mono ?_
                      rw [gone_drop S5.ok hG]
                      rintro e w6 ⟨rfl, T6, O6⟩
                      have S6 := (S5.alloc _).only O6 T6 S5.ok
                      clear S5 E5 E5a E5b
                      go_wp2
                      go_roundw
                      case rel => exact ⟨j + 1, by omega, by go_num, S6⟩
                      case measure => simp [intOf]; omega
                    · obtain rfl : j = (D).length := by omega
                      go_wp2
                      go_roundw
                      case rel => exact ⟨k + 1, dP, told, D, by go_num, by omega, by omega, hle, S4, I2⟩
                      case measure => simp [intOf]; omega
                · have hm2 := drop_not (P := P) (n := n) (x := o.h) (by rw [hm]; exact he)
                  rw [hm] at hm2
                  obtain ⟨rfl, rfl⟩ : de = 111 ∧ dP = P := by injection hm2 with h1 h2; exact ⟨h1, h2⟩
                  clear S hm hm2
                  try clear C0 C1 C2 C3 C4
                  go_wp2
                  go_loopw [15] (fun v15 wr3 => ∃ j : Nat, j ≤ (dead).length ∧ v15 = .int .i64 j ∧ NS w n wr3 dP (.slice A7 told.length c7) (.slice A8 (dead).length c8) told (dead)) (fun v15 _ => (dead).length + 1 - (intOf v15).toNat)
                  case atStart => exact ⟨0, Nat.zero_le _, rfl, S2⟩
                  case round =>
                    obtain ⟨j, hj, rfl, S4⟩ := hrel
                    by_cases hjl : j < (dead).length
                    · obtain ⟨ad8, x8, rfl, hx8, E8⟩ := R_at S4.r8 j hjl
                      have hG := I.dead x8 (List.mem_of_getElem? hx8)
                      have hj0 : (0 : Int) ≤ (j : Int) := by omega
                      have hj1 : (j : Int) < ((dead).length : Int) := by omega
                      have hj2 : decide ((j : Int) < ((dead).length : Int)) = true := decide_eq_true hj1
                      go_wp2_with fail
                      refine (find13' _ w.heap.size dP n hn S4.ok S4.tab x8 hG.1 hG.2.1).mono ?_
                      rw [gone_find S4.ok hG]
                      rintro e w5 ⟨rfl, T5, hb5⟩
                      have S5 := S4.below hb5
                      have E5 := vcell hb5 E8
                      have E5a := vcell_alloc E5 (.cells #[.int .i64 0, .int .u8 0] 30)
                      have E5b := World.block_lt_of_cell? _ _ E5
                      clear E8 S4
                      go_wp2_with fail
                      refine (drop12 _ w.heap.size dP n hn S5.ok (S5.tab.alloc _) x8 hG.1 hG.2.1).mono ?_
                      rw [gone_drop S5.ok hG]
                      rintro e w6 ⟨rfl, T6, O6⟩
                      have S6 := (S5.alloc _).only O6 T6 S5.ok
                      clear S5 E5 E5a E5b
                      go_wp2
                      go_roundw
                      case rel => exact ⟨j + 1, by omega, by go_num, S6⟩
                      case measure => simp [intOf]; omega
                    · obtain rfl : j = (dead).length := by omega
                      go_wp2
                      go_roundw
                      case rel => exact ⟨k + 1, dP, told, dead, by go_num, by omega, by omega, by omega, S4, I⟩
                      case measure => simp [intOf]; omega
          · have g1 : decide (o.kd = 1) = false := decide_eq_false hk1
            have g2 : decide (o.kd = 2) = false := decide_eq_false hk2
            have g3 : decide (o.kd = 3) = false := decide_eq_false hk3
            have g4 : (o.kd == 1) = false := beq_eq_false_iff_ne.2 hk1
            have g5 : (o.kd == 2) = false := beq_eq_false_iff_ne.2 hk2
            have g6 : (o.kd == 3) = false := beq_eq_false_iff_ne.2 hk3
            go_wp2
            go_roundw
            case rel => exact ⟨k + 1, P, told, dead, by go_num, by omega, by omega, by omega, S.alloc _, I⟩
            case measure => simp [intOf]; omega
    · by_cases hlo : k < ops.length
      · have hd1 : decide ((k : Int) < (ops.length : Int)) = true := decide_eq_true (by omega)
        have hd2 : decide ((k : Int) < 80) = false := decide_eq_false (by omega)
        go_wp2_with fail
        refine (alive10 _).mono ?_
        rintro e w2 ⟨rfl, hb2⟩
        go_wp2
        go_ret
        exact ⟨rfl, vbelow_step S.low hb2⟩
      · have hd1 : decide ((k : Int) < (ops.length : Int)) = false := decide_eq_false (by omega)
        go_wp2_with fail
        refine (alive10 _).mono ?_
        rintro e w2 ⟨rfl, hb2⟩
        go_wp2
        go_ret
        exact ⟨rfl, vbelow_step S.low hb2⟩
end Go.Proofs.Ytcpaakhmcpeagaa.Q
