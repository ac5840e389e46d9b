/- Layer 11: a new table of the reference; rows that are the same. -/
import Derived.Test.YtcpaakhmcpeagaaD4
namespace Go.Proofs.Ytcpaakhmcpeagaa.Q
open Go.RowKit Go.Proofs.YtcpaakhmcpeagaaW.PrintWords Go.Proofs.YtcpaakhmcpeagaaW.PrintMore
set_option linter.unusedVariables false
set_option linter.unusedSimpArgs false
/-- A place of the reference: four cells. -/
def kP : Kd Pl := Kd.iso (Kd.pair Kd.bool (Kd.pair (Kd.int .i64) (Kd.pair (Kd.int .i64) (Kd.int .u8)))) (fun p : Pl => (p.t, p.g, p.c, p.r))
theorem kP_mkM (w : World) (base : Nat) (ok : Nat → Prop) (p : Pl) : kP.M w base ok p (rl4 p) :=
  ⟨[.bool p.t], [.int .i64 p.g, .int .i64 p.c, .int .u8 p.r], rfl, rfl, [.int .i64 p.g], [.int .i64 p.c, .int .u8 p.r], rfl, rfl, [.int .i64 p.c], [.int .u8 p.r], rfl, rfl, rfl⟩
theorem kP_openM {w : World} {base : Nat} {ok : Nat → Prop} {p : Pl} {cs : List Value} (h : kP.M w base ok p cs) : cs = rl4 p := by
  obtain ⟨_, _, rfl, rfl, _, _, rfl, rfl, _, _, rfl, rfl, rfl⟩ := h
  rfl
theorem info75' : (Try.prog.info? 75).map (fun i => (i.zero, i.size, i.bytes)) = some (some (.agg #[.bool false, .int .i64 0, .int .i64 0, .int .u8 0]), 4, 32) := by kernel_rfl
theorem row_of {W : World} {base : Nat} {A : Option Addr} {n c : Nat} {L : List Pl} (h : kP.R 75 W base (fun _ => True) (.slice A n c) L) (hl : L.length = n) (hp : 0 < n) : ∃ vb, A = some ⟨vb, 0, none⟩ ∧ base ≤ vb ∧ ∃ cur : List Value, W.heap[vb]? = some (.cells cur.toArray 75 (0, 0)) ∧ ∀ (i j : Nat) (p : Pl), L[i]? = some p → j < 4 → cur[i * 4 + j]? = (rl4 p)[j]? := by
  obtain ⟨_, inner, ho, hr⟩ := h
  rcases ho.2 with ⟨hv, h0⟩ | ⟨g, cap, cur, hv, hg, hh, hle, hcap, hsz, htake⟩
  · omega
  · injection hv with ha hn hc
    refine ⟨g, ha, hg, cur.toList, by simpa using hh, fun i j p hi hj => ?_⟩
    have hM := hr.2 i p hi
    have ho2 := kP_openM hM
    have hil : i < L.length := (List.getElem?_eq_some_iff.1 hi).1
    have e1 : cur.toList[i * 4 + j]? = inner[i * 4 + j]? := by
      rw [← htake, List.getElem?_take, if_pos (by show i * 4 + j < L.length * 4; omega)]
    have e2 : inner[i * 4 + j]? = ((inner.drop (i * 4)).take 4)[j]? := by
      rw [List.getElem?_take, if_pos hj, List.getElem?_drop]
    rw [e1, e2, ← ho2]
    rfl
theorem blk_cell0 {W : World} {b : Nat} {v : Value} {t : TypeId} (h : W.heap[b]? = some (.cells #[v] t (0, 0))) : W.cell? ⟨b, 0, none⟩ = some v := by
  unfold World.cell?
  rw [show W.heap[b]? = _ from h]
  rfl
theorem blk_frozen0 {W : World} {b : Nat} {cs : Array Value} {t : TypeId} (h : W.heap[b]? = some (.cells cs t (0, 0))) (o : Nat) : W.frozen? ⟨b, o, none⟩ = false := by
  unfold World.frozen?
  rw [show W.heap[b]? = _ from h]
  simp
set_option maxHeartbeats 1000000 in
set_option maxRecDepth 100000 in
theorem rnew18 (w : World) (n : Nat) (hn : n ≤ 32) : Calls Try.prog 18 #[.int .i64 n] w fun e w' => ∃ A c, e = .returned (.tuple #[.pointer (some ⟨w.heap.size, 0, none⟩), .int .i64 0]) ∧ RT w' w.heap.size A c n freshP ∧ (∀ a, A = some a → w.heap.size ≤ a.block ∧ a.block < w'.heap.size ∧ ∃ cs, w'.heap[a.block]? = some (.cells cs 75 (0, 0))) ∧ Below w.heap.size w w' := by
  have hn0 : decide ((n : Int) < 0) = false := decide_eq_false (by omega)
  have hn1 : decide ((n : Int) > 32) = false := decide_eq_false (by omega)
  have hn2 : decide (32 < (n : Int)) = false := decide_eq_false (by omega)
  have N0 : (w.alloc (.cells #[.slice none 0 0] 73)).heap[w.heap.size]? = some (.cells #[.slice none 0 0] 73 (0, 0)) := heap_alloc_new w _
  go_enter Try.func18, Try.ntmps18
  go_wp2
  go_loopw [5] (fun v5 wr => ∃ (k : Nat) (L : List Pl) (Ao : Option Addr) (co : Nat), k ≤ n ∧ v5 = .int .i64 k ∧ Aside0 (L.length = k) ∧ Aside0 (L = List.replicate k ⟨1, false, 0, 0⟩) ∧ wr.heap[w.heap.size]? = some (.cells #[.slice Ao L.length co] 73 (0, 0)) ∧ kP.R 75 wr w.heap.size (fun _ => True) (.slice Ao L.length co) L ∧ Below w.heap.size w wr) (fun v5 _ => n + 1 - (intOf v5).toNat)
  case atStart => exact ⟨0, [], none, 0, Nat.zero_le _, rfl, ⟨rfl⟩, ⟨rfl⟩, N0, Kd.R_nil _ _ _ _ _, (by repeat (first | (with_reducible exact Below.refl _ _) | (with_reducible refine vbelow_alloc ?_ _) | (with_reducible refine vbelow_drew ?_) | (with_reducible refine vbelow_drewN ?_ _) | (with_reducible refine vbelow_set ?_ (by first | exact Nat.le_refl _ | (dsimp only; omega) | omega))))⟩
  case round =>
    obtain ⟨k, L, Ao, co, hk, rfl, hL, HL, HH, HO, HB1⟩ := hrel
    by_cases hki : k < n
    · have C0 := blk_cell0 HH
      have hlt_ : w.heap.size < wr.heap.size := (Array.getElem?_eq_some_iff.1 HH).1
      have hne_ : some w.heap.size ≠ (Value.slice Ao L.length co).ownBlock := Kd.R_ne HO HH (by decide)
      have hd1 : decide ((k : Int) < (n : Int)) = true := decide_eq_true (by omega)
      go_wp2_with ((with_reducible refine gate_builtin (b := .append) (xs := #[.tmp 23, .tmp 25]) rfl ?_); at_builtin; refine Kd.R_append kP (w0 := w) w.heap.size rfl (.tmp 23) (.tmp 25) 71 75 (.agg #[.bool false, .int .i64 0, .int .i64 0, .int .u8 0]) 32 rfl Try.underlying71 info75' rfl (by decide) (by omega) (.slice Ao L.length co) L ⟨1, false, 0, 0⟩ [.bool false, .int .i64 1, .int .i64 0, .int .u8 0] (fun _ => True) (fun _ => False) rfl rfl ?aP (fun _ hk => hk.elim) ?aF ?aO ?aB ?aS ?aL ?_; (case aP => exact kP_mkM _ _ _ _); (case aB => exact HB1); (case aF => exact (fun _ _ => trivial)); (case aO => exact HO); (case aS => exact HB1.size); (case aL => have hL_ := hL.out; omega); intro v4 w4 ho hb4 hg4 hat4; have h4 : w4.heap[w.heap.size]? = some (.cells #[.slice Ao L.length co] 73 (0, 0)) := (hg4.block _ hlt_ hne_).trans HH; have C4 : w4.cell? ⟨w.heap.size, 0, none⟩ = some (.slice Ao L.length co) := blk_cell0 h4; have F4 : w4.frozen? ⟨w.heap.size, 0, none⟩ = false := blk_frozen0 h4 0; have hne2 : some w.heap.size ≠ v4.ownBlock := Kd.R_ne ho h4 (by decide); obtain ⟨A5, c5, e5⟩ := Kd.R_slice ho; subst e5)
      have HH5 := heap_setCell_in (o := 0) h4 (.slice A5 (L.length + 1) c5)
      try go_wp2
      go_roundw
      case rel => exact ⟨k + 1, L ++ [(⟨1, false, 0, 0⟩ : Pl)], A5, c5, by omega, by go_num, ⟨by rw [List.length_append, List.length_singleton, hL.out]⟩, ⟨by rw [HL.out, List.replicate_succ']⟩, by rw [List.length_append, List.length_singleton]; exact HH5, Kd.R_mono (Kd.R_step (Kd.R_tight rfl ho) (fun k ho_ hlt2 => Below.heap_setCell w4 ⟨w.heap.size, 0, none⟩ _ k (fun e => hne2 (by rw [← ho_]; exact congrArg some e.symm)))) (fun _ _ => trivial), vbelow_set hb4 (Nat.le_refl _)⟩
      case measure => simp [intOf]; omega
    · obtain rfl : k = n := by omega
      have hd1 : decide ((k : Int) < (k : Int)) = false := decide_eq_false (by omega)
      go_wp2
      go_ret2
      refine ⟨Ao, co, rfl, ⟨by have hL_ := hL.out; rw [← hL_]; rw [hL_]; rw [hL_] at HH; exact HH, by have h_ := (Kd.R_reads' HO).2.1; have hL_ := hL.out; omega, fun hp => ?_⟩, fun a ha => ?_, HB1⟩
      · obtain ⟨vb, ea, _, cur, hh, hc⟩ := row_of HO rfl (by have hL_ := hL.out; omega)
        exact ⟨vb, ea, cur, hh, fun i j hi hj => hc i j _ (by rw [HL.out, List.getElem?_replicate, if_pos hi]; rfl) hj⟩
      · subst ha
        exact ⟨Kd.R_base HO a.block rfl, Kd.R_lt HO a.block rfl, Kd.R_typed HO a.block rfl⟩
set_option maxHeartbeats 1000000 in
set_option maxRecDepth 100000 in
theorem rnew18_lo (w : World) (n : Int) (hn : n < 0) : Calls Try.prog 18 #[.int .i64 n] w fun e w' => e = .returned (.tuple #[.pointer none, .int .i64 1]) ∧ Below w.heap.size w w' := by
  have hn0 : decide (n < 0) = true := decide_eq_true hn
  go_enter Try.func18, Try.ntmps18
  go_wp2
  go_ret2
  exact ⟨rfl, (by repeat (first | (with_reducible exact Below.refl _ _) | (with_reducible refine vbelow_alloc ?_ _) | (with_reducible refine vbelow_drew ?_) | (with_reducible refine vbelow_drewN ?_ _) | (with_reducible refine vbelow_set ?_ (by first | exact Nat.le_refl _ | (dsimp only; omega) | omega))))⟩
set_option maxHeartbeats 1000000 in
set_option maxRecDepth 100000 in
theorem rnew18_hi (w : World) (n : Int) (hn : 32 < n) : Calls Try.prog 18 #[.int .i64 n] w fun e w' => e = .returned (.tuple #[.pointer none, .int .i64 1]) ∧ Below w.heap.size w w' := by
  have hn0 : decide (n < 0) = false := decide_eq_false (by omega)
  have hn1 : decide (n > 32) = true := decide_eq_true (by omega)
  have hn2 : decide (32 < n) = true := decide_eq_true (by omega)
  go_enter Try.func18, Try.ntmps18
  go_wp2
  go_ret2
  exact ⟨rfl, (by repeat (first | (with_reducible exact Below.refl _ _) | (with_reducible refine vbelow_alloc ?_ _) | (with_reducible refine vbelow_drew ?_) | (with_reducible refine vbelow_drewN ?_ _) | (with_reducible refine vbelow_set ?_ (by first | exact Nat.le_refl _ | (dsimp only; omega) | omega))))⟩
theorem same_l : ∀ (d i k : Nat) (l : List Int), l.length - i ≤ d → d < k → l.length ≤ 100 → i ≤ l.length → rampartref11_Same.l0 k l l (i : Int) = some true := by
  intro d
  induction d with
  | zero =>
    intro i k l h hk hl hi
    obtain ⟨k, rfl⟩ : ∃ m, k = m + 1 := ⟨k - 1, by omega⟩
    simp only [rampartref11_Same.l0]
    rw [if_neg (by omega)]
  | succ d ih =>
    intro i k l h hk hl hi
    obtain ⟨k, rfl⟩ : ∃ m, k = m + 1 := ⟨k - 1, by omega⟩
    simp only [rampartref11_Same.l0]
    by_cases h0 : i < l.length
    · have hw : wrap64 ((i : Int) + 1) = ((i + 1 : Nat) : Int) := (w64 (by omega) (by omega)).trans (by omega)
      have f1 : (i : Int) < (l.length : Int) := by omega
      have f2 : (0 : Int) ≤ (i : Int) := by omega
      have hih := ih (i + 1) k l (by omega) (by omega) hl (by omega)
      rw [hw, if_pos f1, if_pos f2]
      clear hw ih
      simp only [f1, if_true, hih]
    · rw [if_neg (by omega)]
theorem same22 (w : World) (l : List Int) (hl : l.length ≤ 100) (A0 A1 : Option Addr) (c0 c1 : Nat) (h0 : Kd.C (Kd.int .u32) w A0 l.length l) (hc0 : l.length ≤ c0) (h1 : Kd.C (Kd.int .u32) w A1 l.length l) (hc1 : l.length ≤ c1) :
    Calls Try.prog 22 #[.slice A0 l.length c0, .slice A1 l.length c1] w fun e w' => e = .returned (.bool true) ∧ Below w.heap.size w w' := by
  have e : rampartref11_Same.f 200 l l = some true := by
    unfold rampartref11_Same.f
    rw [if_pos rfl]
    exact same_l 100 0 200 l (by omega) (by omega) hl (by omega)
  exact (rampartref11_Same.calls 200 A0 c0 l A1 c1 l true w h0 hc0 h1 hc1 e).mono fun _ _ h => ⟨h.1, by first | exact h.2 | exact h.2.below⟩
end Go.Proofs.Ytcpaakhmcpeagaa.Q
