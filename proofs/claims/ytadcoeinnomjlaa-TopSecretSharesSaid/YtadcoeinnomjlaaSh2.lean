/- What keyring.Shares comes to, at members that are different devices. -/
import Derived.Test.YtadcoeinnomjlaaPGx44
import Derived.Test.YtadcoeinnomjlaaSh1
namespace Go.Proofs.Ytadcoeinnomjlaa.PG
open Go.RowKit Go.Proofs.YtadcoeinnomjlaaW.PrintWords Go.Proofs.Ytadcoeinnomjlaa.Gf
theorem Index_l0_ev (l : List Int) (a : Int) (ha : a ∉ l) (hl : l.length ≤ 1000) (d : Nat) : ∀ j, j + d = l.length → Ev (fun k => slices_Index_int_int.l0 k l a (l.length : Int) (j : Int)) (-1) := by
  induction d with
  | zero =>
    intro j hj
    obtain rfl : j = l.length := by omega
    refine Ev.step (fun k => slices_Index_int_int.l0.eq_2 _ _ _ _ _) ?_
    simp only [if_neg (show ¬ ((l.length : Int) < (l.length : Int)) by omega)]
    exact Ev.now _
  | succ d ih =>
    intro j hj
    have hjl : j < l.length := by omega
    have hrd : rd l (j : Int) = l[j] := by simp [rd, hjl]
    have hne : ¬ a = l[j] := fun e => ha (e ▸ List.getElem_mem hjl)
    refine Ev.step (fun k => slices_Index_int_int.l0.eq_2 _ _ _ _ _) ?_
    simp only [if_pos (show (j : Int) < (l.length : Int) by omega), if_pos (show (0 : Int) ≤ (j : Int) by omega), hrd, if_neg hne, w64 (show -1000000000000000 ≤ (j : Int) + 1 by omega) (by omega)]
    exact ih (j + 1) (by omega)
theorem Contains_ev (l : List Int) (a : Int) (ha : a ∉ l) (hl : l.length ≤ 1000) : Ev (fun k => slices_Contains_int_int.f k l a) false := by
  unfold slices_Contains_int_int.f slices_Index_int_int.f
  refine Ev.bind (Index_l0_ev l a ha hl l.length 0 (by omega)) ?_
  simp only [show decide ((-1 : Int) ≥ 0) = false by decide]
  exact Ev.now _
theorem within_f (a lo hi : Int) : keyring_within.f a lo hi = some (decide (lo ≤ a ∧ a ≤ hi)) := by
  unfold keyring_within.f
  by_cases h : a ≥ lo
  · rw [if_pos h]
    simp [show lo ≤ a from h]
  · rw [if_neg h]
    simp [show ¬ lo ≤ a from h]
theorem different_l0_ev (l : List Int) (lo hi : Int) (hn : l.Nodup) (hr : ∀ x ∈ l, lo ≤ x ∧ x ≤ hi) (hl : l.length ≤ 1000) (d : Nat) : ∀ j, j + d = l.length → Ev (fun k => keyring_different.l0 k l lo hi l (l.length : Int) (j : Int)) true := by
  induction d with
  | zero =>
    intro j hj
    obtain rfl : j = l.length := by omega
    refine Ev.step (fun k => keyring_different.l0.eq_2 _ _ _ _ _ _ _) ?_
    simp only [if_neg (show ¬ ((l.length : Int) < (l.length : Int)) by omega)]
    exact Ev.now _
  | succ d ih =>
    intro j hj
    have hjl : j < l.length := by omega
    have hrd : rd l (j : Int) = l[j] := by simp [rd, hjl]
    have hnin : l[j] ∉ l.take j := by
      have h2 : (l.take (j + 1)).Nodup := hn.sublist (List.take_sublist _ _)
      rw [List.take_succ_eq_append_getElem hjl, List.nodup_append] at h2
      exact fun h3 => h2.2.2 _ h3 _ (by simp) rfl
    refine Ev.step (fun k => keyring_different.l0.eq_2 _ _ _ _ _ _ _) ?_
    simp only [if_pos (show (j : Int) < (l.length : Int) by omega), if_pos (show (0 : Int) ≤ (j : Int) by omega), hrd, within_f, decide_eq_true (hr _ (List.getElem_mem hjl)), Option.bind_some, if_true, if_pos (show (j : Int) ≤ (l.length : Int) by omega), Int.toNat_natCast,
      w64 (show -1000000000000000 ≤ (j : Int) + 1 by omega) (by omega)]
    refine Ev.bind (Contains_ev _ _ hnin (by rw [List.length_take]; omega)) ?_
    simp only [if_neg (show ¬ (false = true) by decide)]
    exact ih (j + 1) (by omega)
theorem different_ev (l : List Int) (lo hi : Int) (hn : l.Nodup) (hr : ∀ x ∈ l, lo ≤ x ∧ x ≤ hi) (hl : l.length ≤ 1000) : Ev (fun k => keyring_different.f k l lo hi) true := by
  unfold keyring_different.f
  exact different_l0_ev l lo hi hn hr hl l.length 0 (by omega)
/-- The pieces of 32 elements. -/
def chunksF (cs : List F) (N : Nat) : List (List F) := (List.range N).map fun i => (cs.take (32 * i + 32)).drop (32 * i)
theorem chunksF_length (cs : List F) (N : Nat) : (chunksF cs N).length = N := by simp [chunksF]
theorem chunksF_mem {cs : List F} {N : Nat} (h : cs.length = 32 * N) : ∀ c ∈ chunksF cs N, c.length = 32 := by
  intro c hc
  obtain ⟨i, hi, rfl⟩ := List.mem_map.1 hc
  have := List.mem_range.1 hi
  rw [List.length_drop, List.length_take]
  omega
theorem pieces_IL (cs : List F) (N : Nat) : pieces (IL cs) N = (chunksF cs N).map IL := by
  unfold pieces chunksF
  rw [List.map_map]
  refine List.map_congr_left fun i _ => ?_
  simp [IL, List.map_take, List.map_drop]
def secOf (s : ByteArray) : List F := s.data.toList.map fun b => BitVec.ofNat 8 b.toNat
theorem secOf_length (s : ByteArray) : (secOf s).length = s.size := by rw [secOf, List.length_map, data_length]
theorem bytesOf_sec (s : ByteArray) : bytesOf s = IL (secOf s) := by
  unfold bytesOf secOf IL
  rw [List.map_map]
  refine List.map_congr_left fun b _ => ?_
  have := b.toNat_lt
  simp only [Function.comp, I, BitVec.toNat_ofNat]
  omega
theorem Shares_l0_ev (s : ByteArray) (cols : List (List F)) (M : List Int) (hs : s.size = 32) (hc : cols.length < 16) (hl : ∀ c ∈ cols, c.length = 32) (hM : ∀ x ∈ M, 0 ≤ x ∧ x ≤ 11) (hn : M.Nodup) (hml : M.length ≤ 12) (d : Nat) : ∀ j, j + d = M.length →
    Ev (fun k => keyring_Shares.l0 k s (cols.map IL) ((M.take j).map (· + 1)) M (M.length : Int) (j : Int)) (sharesAt (secOf s) cols (M.map (· + 1)), 0) := by
  induction d with
  | zero =>
    intro j hj
    obtain rfl : j = M.length := by omega
    refine Ev.step (fun k => keyring_Shares.l0.eq_2 _ _ _ _ _ _ _) ?_
    simp only [if_neg (show ¬ ((M.length : Int) < (M.length : Int)) by omega), List.take_length, str_bytes.f, if_pos (show s.size ≤ 1000 by omega), Option.bind_some, bytesOf_sec]
    refine Ev.bind (Split_ev (secOf s) cols (M.map (· + 1)) (by rw [secOf_length]; omega) hc (fun c h => by rw [secOf_length, hs]; exact hl c h) (fun x hx => ?_) (by rw [List.length_map]; omega) (hn.map _ (fun a b hab => ?_))) (Ev.now _)
    · obtain ⟨y, hy, rfl⟩ := List.mem_map.1 hx
      have := hM y hy
      omega
    · intro h
      exact hab (by omega)
  | succ d ih =>
    intro j hj
    have hjl : j < M.length := by omega
    have hmj := hM _ (List.getElem_mem hjl)
    have hrd : rd M (j : Int) = M[j] := by simp [rd, hjl]
    refine Ev.step (fun k => keyring_Shares.l0.eq_2 _ _ _ _ _ _ _) ?_
    simp only [if_pos (show (j : Int) < (M.length : Int) by omega), if_pos (show (0 : Int) ≤ (j : Int) by omega), hrd, List.length_map, List.length_take, if_pos (show min j M.length < 17592186044416 by omega), w64 (show -1000000000000000 ≤ (j : Int) + 1 by omega) (by omega), w64 (show -1000000000000000 ≤ M[j] + 1 by omega) (by omega)]
    have := ih (j + 1) (by omega)
    rw [List.take_succ_eq_append_getElem hjl, List.map_append] at this
    exact this
theorem Shares_ev (s : ByteArray) (T : Nat) (cs : List F) (M : List Int) (hs : s.size = 32) (hT : T ≤ 4) (hcs : cs.length = 32 * T) (hM : ∀ x ∈ M, 0 ≤ x ∧ x ≤ 11) (hn : M.Nodup) (hml : M.length = T + 1) :
    Ev (fun k => keyring_Shares.f k s ((T : Int) + 1) M (IL cs)) (sharesAt (secOf s) (chunksF cs T) (M.map (· + 1)), 0) := by
  have hw : wrap64 (32 * (wrap64 ((T : Int) + 1 - 1))) = 32 * (T : Int) := by unfold wrap64; omega
  have hb : ((cs.length : Int) != 32 * (T : Int)) = false := bne_eq_false_iff_eq.mpr (by omega)
  unfold keyring_Shares.f
  simp only [if_pos (show (s.size : Int) = 32 by omega), within_f, decide_eq_true (show (1 : Int) ≤ (T : Int) + 1 ∧ (T : Int) + 1 ≤ 12 by omega), Option.bind_some, if_true]
  refine Ev.bind (different_ev M 0 11 hn hM (by omega)) ?_
  simp only [if_true, if_neg (show ¬ ((M.length : Int) < (T : Int) + 1) by omega), IL_length, hw, hb]
  refine Ev.step (fun k => keyring_Shares.j0.eq_2 _ _ _ _ _) ?_
  have hch : chunks32.f (IL cs) = some ((chunksF cs T).map IL) := by
    unfold chunks32.f
    rw [IL_length, if_pos (by omega), pieces_IL, show cs.length / 32 = T by omega]
  simp only [if_neg (show ¬ (false = true) by decide), hch, Option.bind_some]
  exact Shares_l0_ev s _ M hs (by rw [chunksF_length]; omega) (chunksF_mem hcs) hM hn (by omega) M.length 0 (by omega)
end Go.Proofs.Ytadcoeinnomjlaa.PG
