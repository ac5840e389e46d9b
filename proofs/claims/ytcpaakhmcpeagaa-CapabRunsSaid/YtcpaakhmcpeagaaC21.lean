/- Layer 11, plain: which handles stand for what. -/
import Derived.Test.YtcpaakhmcpeagaaC17
namespace Go.Proofs.Ytcpaakhmcpeagaa.Q
open Go.RowKit Go.Proofs.YtcpaakhmcpeagaaW.PrintWords Go.Proofs.YtcpaakhmcpeagaaW.PrintMore
set_option linter.unusedVariables false
set_option linter.unusedSimpArgs false
theorem len_le : ∀ (L M : List Nat), L.Nodup → (∀ x ∈ L, x ∈ M) → L.length ≤ M.length
  | [], M, _, _ => Nat.zero_le _
  | x :: L, M, hn, h => by
    rw [List.nodup_cons] at hn
    have hx := h x List.mem_cons_self
    have h1 := len_le L (M.erase x) hn.2 (fun y hy => (List.mem_erase_of_ne (fun (e : y = x) => hn.1 (e ▸ hy))).2 (h y (List.mem_cons_of_mem _ hy)))
    have h2 := List.length_erase_of_mem hx
    have h3 : 0 < M.length := List.length_pos_of_mem hx
    rw [List.length_cons]
    omega
/-- The places of the handles that were told and not dropped, in their order. -/
structure St (P : Nat → Pl) (L : List Nat) : Prop where
  nod : L.Nodup
  iff : ∀ i, i ∈ L ↔ (i < 32 ∧ (P i).t = true)
def heldOf (P : Nat → Pl) (i : Nat) : Int × Int × Int := (hd P i, (P i).c, (P i).r)
theorem St.start : St freshP [] := ⟨List.nodup_nil, fun i => ⟨fun h => absurd h List.not_mem_nil, fun h => by cases h.2⟩⟩
theorem heldOf_ne (P : Nat → Pl) (i j : Nat) (p : Pl) (h : j ≠ i) : heldOf (upd P i p) j = heldOf P j := by
  unfold heldOf hd
  rw [upd_ne _ _ _ _ h]
theorem held_map (P : Nat → Pl) (i : Nat) (p : Pl) (L : List Nat) (h : i ∉ L) : L.map (heldOf (upd P i p)) = L.map (heldOf P) :=
  List.map_congr_left fun j hj => heldOf_ne P i j p (fun e => h (e ▸ hj))
theorem st_mint {P : Nat → Pl} {L : List Nat} (S : St P L) {i : Nat} {c r : Int} (hf : freeF P 32 = some i) :
    St (upd P i ⟨(P i).g, true, c, r⟩) (L ++ [i]) ∧ (L ++ [i]).map (heldOf (upd P i ⟨(P i).g, true, c, r⟩)) = L.map (heldOf P) ++ [((handleR i r (P i).g).1, c, r)] ∧ L.length < 32 := by
  obtain ⟨h1, h2, _⟩ := freeF_some hf
  have ht := (opn_of h2).1
  have hn : i ∉ L := fun h => by have := ((S.iff i).1 h).2; rw [ht] at this; cases this
  refine ⟨⟨?_, fun j => ?_⟩, ?_, ?_⟩
  · rw [List.nodup_append]
    refine ⟨S.nod, by simp, fun a ha b hb => ?_⟩
    rw [List.mem_singleton] at hb
    subst hb
    exact fun e => hn (e ▸ ha)
  · rw [List.mem_append, List.mem_singleton]
    by_cases hj : j = i
    · subst hj; rw [upd_same]; exact ⟨fun _ => ⟨h1, rfl⟩, fun _ => .inr rfl⟩
    · rw [upd_ne _ _ _ _ hj, S.iff]
      exact ⟨fun h => h.resolve_right hj, fun h => .inl h⟩
  · rw [List.map_append, held_map _ _ _ _ hn]
    congr 1
    simp only [List.map_cons, List.map_nil]
    unfold heldOf hd
    rw [upd_same]
  · have hle := len_le (L ++ [i]) (List.range 32) (by
      rw [List.nodup_append]
      refine ⟨S.nod, by simp, fun a ha b hb => ?_⟩
      rw [List.mem_singleton] at hb
      subst hb
      exact fun e => hn (e ▸ ha)) (fun x hx => by
      rw [List.mem_range]
      rcases List.mem_append.1 hx with hx | hx
      · exact ((S.iff x).1 hx).1
      · rw [List.mem_singleton] at hx; omega)
    rw [List.length_append, List.length_singleton, List.length_range] at hle
    omega
theorem at_held {P : Nat → Pl} (ok : Ok P) {i : Nat} (hi : i < 32) (ht : (P i).t = true) : atF P 32 (hd P i) = i ∧ 0 ≤ hd P i ∧ hd P i < 4294967296 := by
  have hg := ok.tg i ht
  have e := hd_is ok (i := i) (by omega) hg
  have := ok.r0 i
  have := ok.r1 i
  have := ok.g0 i
  have hm : (hd P i % 256).toNat = i := by omega
  refine ⟨?_, by omega, by omega⟩
  unfold atF
  rw [hm, if_pos ⟨hi, ht, rfl⟩]
theorem st_drop {P : Nat → Pl} {L : List Nat} (ok : Ok P) (S : St P L) {q i : Nat} (hq : L[q]? = some i) :
    dropF P 32 (hd P i) = (0, upd P i ⟨(P i).g + 1, false, 0, 0⟩) ∧ St (upd P i ⟨(P i).g + 1, false, 0, 0⟩) (L.take q ++ L.drop (q + 1)) ∧
    (L.take q ++ L.drop (q + 1)).map (heldOf (upd P i ⟨(P i).g + 1, false, 0, 0⟩)) = (L.map (heldOf P)).take q ++ (L.map (heldOf P)).drop (q + 1) := by
  obtain ⟨hi, ht⟩ := (S.iff i).1 (List.mem_of_getElem? hq)
  obtain ⟨ha, _, _⟩ := at_held ok hi ht
  obtain ⟨hql, hqi⟩ := List.getElem?_eq_some_iff.1 hq
  have hspl : L = L.take q ++ i :: L.drop (q + 1) := by
    have h1 := List.take_append_drop q L
    rw [List.drop_eq_getElem_cons hql, hqi] at h1
    exact h1.symm
  have hnod := S.nod
  rw [hspl, List.nodup_append] at hnod
  obtain ⟨n1, n2, n3⟩ := hnod
  rw [List.nodup_cons] at n2
  have hn : i ∉ L.take q ++ L.drop (q + 1) := fun h => by
    rcases List.mem_append.1 h with h | h
    · exact n3 i h i List.mem_cons_self rfl
    · exact n2.1 h
  refine ⟨?_, ⟨?_, fun j => ?_⟩, ?_⟩
  · unfold dropF
    rw [ha, if_neg (by omega), Int.toNat_natCast]
  · rw [List.nodup_append]
    exact ⟨n1, n2.2, fun a h1 b h2 => n3 a h1 b (List.mem_cons_of_mem _ h2)⟩
  · by_cases hj : j = i
    · subst hj; rw [upd_same]
      exact ⟨fun h => absurd h hn, fun h => by cases h.2⟩
    · rw [upd_ne _ _ _ _ hj, ← S.iff]
      have h1 : j ∈ L ↔ j ∈ L.take q ++ i :: L.drop (q + 1) := by rw [← hspl]
      rw [h1, List.mem_append, List.mem_append, List.mem_cons]
      exact ⟨fun h => h.elim .inl (fun h => .inr (.inr h)), fun h => h.elim .inl (fun h => .inr (h.resolve_left hj))⟩
  · rw [held_map _ _ _ _ hn, List.map_append, List.map_take, List.map_drop]
theorem find_held {P : Nat → Pl} (ok : Ok P) {i : Nat} (hi : i < 32) (ht : (P i).t = true) : findF P 32 (hd P i) = ((P i).c, (P i).r, true) := by
  unfold findF
  rw [(at_held ok hi ht).1, if_pos (by omega), Int.toNat_natCast]
theorem find_known {P : Nat → Pl} {L : List Nat} (ok : Ok P) (S : St P L) (h : Int) : (findF P 32 h).2.2 = (L.map (heldOf P)).any (fun e => e.1 == h) := by
  unfold findF
  split
  · next h0 =>
    obtain ⟨ht, hh, hi⟩ := atF_taken (P := P) (n := 32) (x := h) (by omega)
    symm
    rw [List.any_eq_true]
    exact ⟨heldOf P (atF P 32 h).toNat, List.mem_map.2 ⟨_, (S.iff _).2 ⟨hi, ht⟩, rfl⟩, by show (hd P _ == h) = true; rw [hh]; simp⟩
  · next h0 =>
    symm
    rw [List.any_eq_false]
    intro e he
    obtain ⟨i, hi, rfl⟩ := List.mem_map.1 he
    obtain ⟨hi, ht⟩ := (S.iff i).1 hi
    intro e2
    have e3 : hd P i = h := by simpa [heldOf] using e2
    have := (at_held ok hi ht).1
    rw [e3] at this
    omega
theorem live_len {P : Nat → Pl} {L : List Nat} (S : St P L) : (liveF P 32).length = L.length := by
  unfold liveF
  rw [List.length_map]
  refine Nat.le_antisymm (len_le _ _ (List.Pairwise.filter _ List.nodup_range) (fun x hx => ?_)) (len_le _ _ S.nod (fun x hx => ?_))
  · rw [List.mem_filter, List.mem_range] at hx
    exact (S.iff x).2 hx
  · rw [List.mem_filter, List.mem_range]
    exact (S.iff x).1 hx
end Go.Proofs.Ytcpaakhmcpeagaa.Q
