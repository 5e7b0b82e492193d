/- What the functions below TopSecretShares come to: the values of a sharing, Shares, Fits, when shares are the same. No condition beyond each lemma's own. -/
import Derived.Test.YtadcoeinnomjlaaPGx42
import Derived.Test.YtadcoeinnomjlaaPGx44
import Derived.Test.YtadcoeinnomjlaaPGx46
import Derived.Test.YtadcoeinnomjlaaPGx47
import Derived.Test.YtadcoeinnomjlaaPGx48
import Derived.Test.YtadcoeinnomjlaaPc
import Derived.Lib.Strings
namespace Go.Proofs.Ytadcoeinnomjlaa.PG
open Go.RowKit Go.Proofs.YtadcoeinnomjlaaW.PrintWords Go.Proofs.Ytadcoeinnomjlaa.Gf
set_option maxRecDepth 100000 in
theorem awake16_at : kinkeeptop_a16Awake.f 100 = some true := by decide +kernel
theorem awake16_ev : Ev (fun k => kinkeeptop_a16Awake.f k) true := Ev.of (fun k => kinkeeptop_a16Awake.mono k) awake16_at
/-- The polynomial of byte b: the secret's byte, then the coefficients'. -/
def polyAt (sec : List F) (cols : List (List F)) (b : Nat) : List F := co sec b :: cols.map (fun c => co c b)
/-- A share's data. -/
def datum (sec : List F) (cols : List (List F)) (x : F) : List F := tab sec.length (fun b => ev (polyAt sec cols b) x)
def part (n : Nat) (f : Nat → F) (j : Nat) : List F := tab n (fun b => if b < j then f b else 0#8)
theorem part_length (n : Nat) (f : Nat → F) (j : Nat) : (part n f j).length = n := tab_length ..
theorem part_zero (n : Nat) (f : Nat → F) : part n f 0 = List.replicate n 0#8 := by
  refine List.ext_getElem (by simp [part, tab]) fun i h1 h2 => ?_
  simp [part, tab]
theorem part_full (n : Nat) (f : Nat → F) : part n f n = tab n f := by
  refine List.ext_getElem (by simp [part, tab]) fun i h1 h2 => ?_
  have : i < n := by simpa [part, tab] using h1
  simp [part, tab, this]
theorem part_set (n : Nat) (f : Nat → F) (j : Nat) : (part n f j).set j (f j) = part n f (j + 1) := by
  refine List.ext_getElem (by simp [part, tab]) fun i h1 h2 => ?_
  rw [List.getElem_set]
  by_cases e : j = i
  · subst e
    simp [part, tab]
  · rw [if_neg e]
    simp only [part, tab, List.getElem_map, List.getElem_range]
    by_cases h3 : i < j
    · rw [if_pos h3, if_pos (by omega)]
    · rw [if_neg h3, if_neg (by omega)]
theorem rd_L2_IL {cols : List (List F)} {m : Nat} (h : m < cols.length) : rd_L2 (cols.map IL) (m : Int) = IL cols[m] := by
  simp [rd_L2, h]
theorem at1_l1_ev (sec : List F) (cols : List (List F)) (x : F) (hn : sec.length ≤ 1000) (hc : cols.length ≤ 100) (hl : ∀ c ∈ cols, c.length = sec.length) (b : Nat) (hb : b < sec.length) (R : List Int)
    (hend : Ev (fun k => shamir_at1.l0 k (IL sec) (cols.map IL) (I x) (IL (part sec.length (fun b => ev (polyAt sec cols b) x) (b + 1))) (sec.length : Int) ((b + 1 : Nat) : Int)) R) (d : Nat) : ∀ m, m + d = cols.length →
    Ev (fun k => shamir_at1.l1 k (IL sec) (cols.map IL) (I x) (IL (part sec.length (fun b => ev (polyAt sec cols b) x) b)) (b : Int) (IL (polyAt sec (cols.take m) b)) (sec.length : Int) (b : Int) (cols.map IL) (cols.length : Int) (m : Int)) R := by
  induction d with
  | zero =>
    intro m hm
    obtain rfl : m = cols.length := by omega
    refine Ev.step (fun k => shamir_at1.l1.eq_2 _ _ _ _ _ _ _ _ _ _ _ _) ?_
    simp only [if_neg (show ¬ ((cols.length : Int) < (cols.length : Int)) by omega), List.take_length]
    refine Ev.bind (Eval_ev _ x (by simp [polyAt]; omega)) ?_
    simp only [if_pos (show (0 : Int) ≤ (b : Int) by omega), IL_length, part_length, if_pos (show (b : Int) < (sec.length : Int) by omega), Int.toNat_natCast, IL_set, w64 (show -1000000000000000 ≤ (b : Int) + 1 by omega) (by omega)]
    have := hend
    rw [← part_set _ _ b] at this
    exact this
  | succ d ih =>
    intro m hm
    have hml : m < cols.length := by omega
    have hlm := hl _ (List.getElem_mem hml)
    refine Ev.step (fun k => shamir_at1.l1.eq_2 _ _ _ _ _ _ _ _ _ _ _ _) ?_
    simp only [if_pos (show (m : Int) < (cols.length : Int) by omega), if_pos (show (0 : Int) ≤ (m : Int) by omega), List.length_map, if_pos (show (0 : Int) ≤ (b : Int) by omega), rd_L2_IL hml, IL_length, if_pos (show (b : Int) < ((cols[m]).length : Int) by omega),
      if_pos (show (polyAt sec (cols.take m) b).length < 140737488355328 by simp [polyAt]; omega), rd_co, IL_snoc, w64 (show -1000000000000000 ≤ (m : Int) + 1 by omega) (by omega)]
    have := ih (m + 1) (by omega)
    rw [polyAt, List.take_succ_eq_append_getElem hml, List.map_append, ← List.cons_append] at this
    exact this
theorem at1_l0_ev (sec : List F) (cols : List (List F)) (x : F) (hn : sec.length ≤ 1000) (hc : cols.length ≤ 100) (hl : ∀ c ∈ cols, c.length = sec.length) (d : Nat) : ∀ b, b + d = sec.length →
    Ev (fun k => shamir_at1.l0 k (IL sec) (cols.map IL) (I x) (IL (part sec.length (fun b => ev (polyAt sec cols b) x) b)) (sec.length : Int) (b : Int)) (IL (datum sec cols x)) := by
  induction d with
  | zero =>
    intro b hb
    obtain rfl : b = sec.length := by omega
    refine Ev.step (fun k => shamir_at1.l0.eq_2 _ _ _ _ _ _ _) ?_
    simp only [if_neg (show ¬ ((sec.length : Int) < (sec.length : Int)) by omega), part_full]
    exact Ev.now _
  | succ d ih =>
    intro b hb
    refine Ev.step (fun k => shamir_at1.l0.eq_2 _ _ _ _ _ _ _) ?_
    simp only [if_pos (show (b : Int) < (sec.length : Int) by omega), if_pos (show (0 : Int) ≤ (b : Int) by omega), IL_length, List.length_map, rd_co]
    exact at1_l1_ev sec cols x hn hc hl b (by omega) _ (ih (b + 1) (by omega)) cols.length 0 (by omega)
theorem at1_ev (sec : List F) (cols : List (List F)) (x : F) (hn : sec.length ≤ 1000) (hc : cols.length ≤ 100) (hl : ∀ c ∈ cols, c.length = sec.length) :
    Ev (fun k => shamir_at1.f k (IL sec) (cols.map IL) (I x)) (IL (datum sec cols x)) := by
  unfold shamir_at1.f
  simp only [IL_length, if_pos (show (0 : Int) ≤ (sec.length : Int) by omega), Int.toNat_natCast, if_pos (show sec.length ≤ 281474976710656 by omega), IL_replicate]
  have := at1_l0_ev sec cols x hn hc hl sec.length 0 (by omega)
  rw [part_zero] at this
  exact this
/-- The shares of a sharing at the elements xs. -/
def sharesAt (sec : List F) (cols : List (List F)) (xs : List Int) : List S39 := xs.map fun x => ⟨x, IL (datum sec cols (Fi x))⟩
theorem Split_l0_ev (sec : List F) (cols : List (List F)) (xs : List Int) (hn : sec.length ≤ 1000) (hc : cols.length ≤ 100) (hl : ∀ c ∈ cols, c.length = sec.length) (hx : ∀ x ∈ xs, 1 ≤ x ∧ x ≤ 255) (hxl : xs.length ≤ 64) (d : Nat) : ∀ j, j + d = xs.length →
    Ev (fun k => shamir_Split.l0 k (IL sec) (cols.map IL) (sharesAt sec cols (xs.take j)) xs (xs.length : Int) (j : Int)) (sharesAt sec cols xs, 0) := by
  induction d with
  | zero =>
    intro j hj
    obtain rfl : j = xs.length := by omega
    refine Ev.step (fun k => shamir_Split.l0.eq_2 _ _ _ _ _ _ _) ?_
    simp only [if_neg (show ¬ ((xs.length : Int) < (xs.length : Int)) by omega), List.take_length]
    exact Ev.now _
  | succ d ih =>
    intro j hj
    have hjl : j < xs.length := by omega
    have hxj := hx _ (List.getElem_mem hjl)
    have hrd : rd xs (j : Int) = xs[j] := by simp [rd, hjl]
    have hI : xs[j] % 256 = I (Fi xs[j]) := by rw [I_Fi (by omega) (by omega)]; omega
    refine Ev.step (fun k => shamir_Split.l0.eq_2 _ _ _ _ _ _ _) ?_
    simp only [if_pos (show (j : Int) < (xs.length : Int) by omega), if_pos (show (0 : Int) ≤ (j : Int) by omega), hrd, hI]
    refine Ev.bind (at1_ev sec cols _ hn hc hl) ?_
    simp only [if_pos (show (sharesAt sec cols (xs.take j)).length < 4398046511104 by simp [sharesAt]; omega), w64 (show -1000000000000000 ≤ (j : Int) + 1 by omega) (by omega)]
    have := ih (j + 1) (by omega)
    rw [sharesAt, List.take_succ_eq_append_getElem hjl, List.map_append] at this
    exact this
theorem Split_ev (sec : List F) (cols : List (List F)) (xs : List Int) (hn : sec.length ≤ 1000) (hc : cols.length < 16) (hl : ∀ c ∈ cols, c.length = sec.length) (hx : ∀ x ∈ xs, 1 ≤ x ∧ x ≤ 255) (hxl : xs.length ≤ 64) (hnd : xs.Nodup) :
    Ev (fun k => shamir_Split.f k (IL sec) (cols.map IL) xs) (sharesAt sec cols xs, 0) := by
  have h1 : shamir_level.f (cols.map IL) ((IL sec).length : Int) = some true := by
    unfold shamir_level.f
    rw [if_pos ⟨by rw [List.length_map]; exact hc, by omega, fun c hc => by
      obtain ⟨c', h, rfl⟩ := List.mem_map.1 hc
      rw [IL_length, IL_length, hl c' h]⟩]
  have h2 : shamir_elements.f xs = some true := by
    unfold shamir_elements.f
    rw [if_pos ⟨hx, hnd, hxl⟩]
  unfold shamir_Split.f
  simp only [h1, Option.bind_some, if_true, h2, Bool.not_true]
  refine Ev.step (fun k => shamir_Split.j0.eq_2 _ _ _ _ _) ?_
  simp only [if_neg (show ¬ (false = true) by decide), IL_length, if_neg (show ¬ ((sec.length : Int) > 1024) by omega)]
  exact Split_l0_ev sec cols xs hn (by omega) hl hx hxl xs.length 0 (by omega)
theorem Index_l0_ev (l : List Int) (a : Int) (ha : a ∉ l) (hl : l.length ≤ 1000) (d : Nat) : ∀ j, j + d = l.length → Ev (fun k => slices_Index_int_int.l0 k l a (l.length : Int) (j : Int)) (-1) := by
  induction d with
  | zero =>
    intro j hj
    obtain rfl : j = l.length := by omega
    refine Ev.step (fun k => slices_Index_int_int.l0.eq_2 _ _ _ _ _) ?_
    simp only [if_neg (show ¬ ((l.length : Int) < (l.length : Int)) by omega)]
    exact Ev.now _
  | succ d ih =>
    intro j hj
    have hjl : j < l.length := by omega
    have hrd : rd l (j : Int) = l[j] := by simp [rd, hjl]
    have hne : ¬ a = l[j] := fun e => ha (e ▸ List.getElem_mem hjl)
    refine Ev.step (fun k => slices_Index_int_int.l0.eq_2 _ _ _ _ _) ?_
    simp only [if_pos (show (j : Int) < (l.length : Int) by omega), if_pos (show (0 : Int) ≤ (j : Int) by omega), hrd, if_neg hne, w64 (show -1000000000000000 ≤ (j : Int) + 1 by omega) (by omega)]
    exact ih (j + 1) (by omega)
theorem Contains_ev (l : List Int) (a : Int) (ha : a ∉ l) (hl : l.length ≤ 1000) : Ev (fun k => slices_Contains_int_int.f k l a) false := by
  unfold slices_Contains_int_int.f slices_Index_int_int.f
  refine Ev.bind (Index_l0_ev l a ha hl l.length 0 (by omega)) ?_
  simp only [show decide ((-1 : Int) ≥ 0) = false by decide]
  exact Ev.now _
theorem within_f (a lo hi : Int) : keyring_within.f a lo hi = some (decide (lo ≤ a ∧ a ≤ hi)) := by
  unfold keyring_within.f
  by_cases h : a ≥ lo
  · rw [if_pos h]
    simp [show lo ≤ a from h]
  · rw [if_neg h]
    simp [show ¬ lo ≤ a from h]
theorem different_l0_ev (l : List Int) (lo hi : Int) (hn : l.Nodup) (hr : ∀ x ∈ l, lo ≤ x ∧ x ≤ hi) (hl : l.length ≤ 1000) (d : Nat) : ∀ j, j + d = l.length → Ev (fun k => keyring_different.l0 k l lo hi l (l.length : Int) (j : Int)) true := by
  induction d with
  | zero =>
    intro j hj
    obtain rfl : j = l.length := by omega
    refine Ev.step (fun k => keyring_different.l0.eq_2 _ _ _ _ _ _ _) ?_
    simp only [if_neg (show ¬ ((l.length : Int) < (l.length : Int)) by omega)]
    exact Ev.now _
  | succ d ih =>
    intro j hj
    have hjl : j < l.length := by omega
    have hrd : rd l (j : Int) = l[j] := by simp [rd, hjl]
    have hnin : l[j] ∉ l.take j := by
      have h2 : (l.take (j + 1)).Nodup := hn.sublist (List.take_sublist _ _)
      rw [List.take_succ_eq_append_getElem hjl, List.nodup_append] at h2
      exact fun h3 => h2.2.2 _ h3 _ (by simp) rfl
    refine Ev.step (fun k => keyring_different.l0.eq_2 _ _ _ _ _ _ _) ?_
    simp only [if_pos (show (j : Int) < (l.length : Int) by omega), if_pos (show (0 : Int) ≤ (j : Int) by omega), hrd, within_f, decide_eq_true (hr _ (List.getElem_mem hjl)), Option.bind_some, if_true, if_pos (show (j : Int) ≤ (l.length : Int) by omega), Int.toNat_natCast,
      w64 (show -1000000000000000 ≤ (j : Int) + 1 by omega) (by omega)]
    refine Ev.bind (Contains_ev _ _ hnin (by rw [List.length_take]; omega)) ?_
    simp only [if_neg (show ¬ (false = true) by decide)]
    exact ih (j + 1) (by omega)
theorem different_ev (l : List Int) (lo hi : Int) (hn : l.Nodup) (hr : ∀ x ∈ l, lo ≤ x ∧ x ≤ hi) (hl : l.length ≤ 1000) : Ev (fun k => keyring_different.f k l lo hi) true := by
  unfold keyring_different.f
  exact different_l0_ev l lo hi hn hr hl l.length 0 (by omega)
/-- The pieces of 32 elements. -/
def chunksF (cs : List F) (N : Nat) : List (List F) := (List.range N).map fun i => (cs.take (32 * i + 32)).drop (32 * i)
theorem chunksF_length (cs : List F) (N : Nat) : (chunksF cs N).length = N := by simp [chunksF]
theorem chunksF_mem {cs : List F} {N : Nat} (h : cs.length = 32 * N) : ∀ c ∈ chunksF cs N, c.length = 32 := by
  intro c hc
  obtain ⟨i, hi, rfl⟩ := List.mem_map.1 hc
  have := List.mem_range.1 hi
  rw [List.length_drop, List.length_take]
  omega
theorem pieces_IL (cs : List F) (N : Nat) : pieces (IL cs) N = (chunksF cs N).map IL := by
  unfold pieces chunksF
  rw [List.map_map]
  refine List.map_congr_left fun i _ => ?_
  simp [IL, List.map_take, List.map_drop]
def secOf (s : ByteArray) : List F := s.data.toList.map fun b => BitVec.ofNat 8 b.toNat
theorem secOf_length (s : ByteArray) : (secOf s).length = s.size := by rw [secOf, List.length_map, data_length]
theorem bytesOf_sec (s : ByteArray) : bytesOf s = IL (secOf s) := by
  unfold bytesOf secOf IL
  rw [List.map_map]
  refine List.map_congr_left fun b _ => ?_
  have := b.toNat_lt
  simp only [Function.comp, I, BitVec.toNat_ofNat]
  omega
theorem Shares_l0_ev (s : ByteArray) (cols : List (List F)) (M : List Int) (hs : s.size = 32) (hc : cols.length < 16) (hl : ∀ c ∈ cols, c.length = 32) (hM : ∀ x ∈ M, 0 ≤ x ∧ x ≤ 11) (hn : M.Nodup) (hml : M.length ≤ 12) (d : Nat) : ∀ j, j + d = M.length →
    Ev (fun k => keyring_Shares.l0 k s (cols.map IL) ((M.take j).map (· + 1)) M (M.length : Int) (j : Int)) (sharesAt (secOf s) cols (M.map (· + 1)), 0) := by
  induction d with
  | zero =>
    intro j hj
    obtain rfl : j = M.length := by omega
    refine Ev.step (fun k => keyring_Shares.l0.eq_2 _ _ _ _ _ _ _) ?_
    simp only [if_neg (show ¬ ((M.length : Int) < (M.length : Int)) by omega), List.take_length, str_bytes.f, if_pos (show s.size ≤ 1000 by omega), Option.bind_some, bytesOf_sec]
    refine Ev.bind (Split_ev (secOf s) cols (M.map (· + 1)) (by rw [secOf_length]; omega) hc (fun c h => by rw [secOf_length, hs]; exact hl c h) (fun x hx => ?_) (by rw [List.length_map]; omega) (hn.map _ (fun a b hab => ?_))) (Ev.now _)
    · obtain ⟨y, hy, rfl⟩ := List.mem_map.1 hx
      have := hM y hy
      omega
    · intro h
      exact hab (by omega)
  | succ d ih =>
    intro j hj
    have hjl : j < M.length := by omega
    have hmj := hM _ (List.getElem_mem hjl)
    have hrd : rd M (j : Int) = M[j] := by simp [rd, hjl]
    refine Ev.step (fun k => keyring_Shares.l0.eq_2 _ _ _ _ _ _ _) ?_
    simp only [if_pos (show (j : Int) < (M.length : Int) by omega), if_pos (show (0 : Int) ≤ (j : Int) by omega), hrd, List.length_map, List.length_take, if_pos (show min j M.length < 17592186044416 by omega), w64 (show -1000000000000000 ≤ (j : Int) + 1 by omega) (by omega), w64 (show -1000000000000000 ≤ M[j] + 1 by omega) (by omega)]
    have := ih (j + 1) (by omega)
    rw [List.take_succ_eq_append_getElem hjl, List.map_append] at this
    exact this
theorem Shares_ev (s : ByteArray) (T : Nat) (cs : List F) (M : List Int) (hs : s.size = 32) (hT : T ≤ 4) (hcs : cs.length = 32 * T) (hM : ∀ x ∈ M, 0 ≤ x ∧ x ≤ 11) (hn : M.Nodup) (hml : M.length = T + 1) :
    Ev (fun k => keyring_Shares.f k s ((T : Int) + 1) M (IL cs)) (sharesAt (secOf s) (chunksF cs T) (M.map (· + 1)), 0) := by
  have hw : wrap64 (32 * (wrap64 ((T : Int) + 1 - 1))) = 32 * (T : Int) := by unfold wrap64; omega
  have hb : ((cs.length : Int) != 32 * (T : Int)) = false := bne_eq_false_iff_eq.mpr (by omega)
  unfold keyring_Shares.f
  simp only [if_pos (show (s.size : Int) = 32 by omega), within_f, decide_eq_true (show (1 : Int) ≤ (T : Int) + 1 ∧ (T : Int) + 1 ≤ 12 by omega), Option.bind_some, if_true]
  refine Ev.bind (different_ev M 0 11 hn hM (by omega)) ?_
  simp only [if_true, if_neg (show ¬ ((M.length : Int) < (T : Int) + 1) by omega), IL_length, hw, hb]
  refine Ev.step (fun k => keyring_Shares.j0.eq_2 _ _ _ _ _) ?_
  have hch : chunks32.f (IL cs) = some ((chunksF cs T).map IL) := by
    unfold chunks32.f
    rw [IL_length, if_pos (by omega), pieces_IL, show cs.length / 32 = T by omega]
  simp only [if_neg (show ¬ (false = true) by decide), hch, Option.bind_some]
  exact Shares_l0_ev s _ M hs (by rw [chunksF_length]; omega) (chunksF_mem hcs) hM hn (by omega) M.length 0 (by omega)
/-- Shares at xs with the data that D gives. -/
def sharesD (D : Int → List F) (xs : List Int) : List S39 := xs.map fun x => ⟨x, IL (D x)⟩
theorem sharesD_length (D : Int → List F) (xs : List Int) : (sharesD D xs).length = xs.length := by simp [sharesD]
theorem rd_sharesD {D : Int → List F} {xs : List Int} {j : Nat} (h : j < xs.length) : rd_T39 (sharesD D xs) (j : Int) = ⟨xs[j], IL (D xs[j])⟩ := by
  simp [rd_T39, sharesD, h]
theorem size_sharesD {D : Int → List F} {xs : List Int} {n : Nat} (hD : ∀ x ∈ xs, (D x).length = n) (h : 0 < xs.length) : shamir_size.f (sharesD D xs) = some (n : Int) := by
  have h0 := rd_sharesD (D := D) h
  have e : rd_T39 (sharesD D xs) 0 = ⟨xs[0], IL (D xs[0])⟩ := h0
  unfold shamir_size.f
  rw [if_neg (by rw [sharesD_length]; omega), if_pos (by rw [sharesD_length]; omega), e, IL_length, hD _ (List.getElem_mem h)]
theorem valid_l0_ev {D : Int → List F} {xs : List Int} {n : Nat} (hn : n ≤ 1000) (hD : ∀ x ∈ xs, (D x).length = n) (hx : ∀ x ∈ xs, 1 ≤ x ∧ x ≤ 255) (hnd : xs.Nodup) (hxl : xs.length ≤ 64) (d : Nat) : ∀ j, j + d = xs.length →
    Ev (fun k => shamir_valid.l0 k (sharesD D xs) (xs.take j) (sharesD D xs) (xs.length : Int) (j : Int)) true := by
  induction d with
  | zero =>
    intro j hj
    obtain rfl : j = xs.length := by omega
    refine Ev.step (fun k => shamir_valid.l0.eq_2 _ _ _ _ _ _) ?_
    have he : shamir_elements.f xs = some true := by
      unfold shamir_elements.f
      rw [if_pos ⟨hx, hnd, hxl⟩]
    simp only [if_neg (show ¬ ((xs.length : Int) < (xs.length : Int)) by omega), List.take_length, he, Option.bind_some]
    exact Ev.now _
  | succ d ih =>
    intro j hj
    have hjl : j < xs.length := by omega
    refine Ev.step (fun k => shamir_valid.l0.eq_2 _ _ _ _ _ _) ?_
    simp only [if_pos (show (j : Int) < (xs.length : Int) by omega), if_pos (show (0 : Int) ≤ (j : Int) by omega), sharesD_length, size_sharesD hD (show 0 < xs.length by omega), Option.bind_some, rd_sharesD hjl, IL_length, hD _ (List.getElem_mem hjl), if_true,
      if_neg (show ¬ ((n : Int) > 1024) by omega), List.length_take, if_pos (show min j xs.length < 17592186044416 by omega), w64 (show -1000000000000000 ≤ (j : Int) + 1 by omega) (by omega)]
    have := ih (j + 1) (by omega)
    rw [List.take_succ_eq_append_getElem hjl] at this
    exact this
theorem check_ev {D : Int → List F} {xs : List Int} {n : Nat} (hn : n ≤ 1000) (hD : ∀ x ∈ xs, (D x).length = n) (hx : ∀ x ∈ xs, 1 ≤ x ∧ x ≤ 255) (hnd : xs.Nodup) (hxl : xs.length ≤ 15) :
    Ev (fun k => shamir_check.f k (sharesD D xs) ((xs.length : Int) + 1)) 0 := by
  unfold shamir_check.f shamir_valid.f
  simp only [sharesD_length]
  refine Ev.bind (valid_l0_ev hn hD hx hnd (by omega) xs.length 0 (by omega)) ?_
  simp only [if_true, if_neg (show ¬ ((xs.length : Int) + 1 < 1) by omega), if_neg (show ¬ ((xs.length : Int) + 1 > 16) by omega)]
  exact Ev.now _
/-- The polynomial through the secret's byte and the shares' bytes. -/
def fitP (sec : List F) (xs : List Int) (D : Int → List F) (b : Nat) : List F := itP (0#8 :: xs.map Fi) (co sec b :: xs.map fun x => co (D x) b)
/-- The coefficients that Fits gives: the j-th list. -/
def fitL (sec : List F) (xs : List Int) (D : Int → List F) (j : Nat) : List F := tab sec.length (fun b => co (fitP sec xs D b) (j + 1))
def colF (sec : List F) (xs : List Int) (D : Int → List F) (j : Nat) : Nat → F := fun b => co (fitP sec xs D b) (j + 1)
def stage (sec : List F) (xs : List Int) (D : Int → List F) (b i : Nat) : List (List Int) :=
  (List.range xs.length).map fun j => IL (if j + 1 < i then part sec.length (colF sec xs D j) (b + 1) else part sec.length (colF sec xs D j) b)
def rowsB (sec : List F) (xs : List Int) (D : Int → List F) (b : Nat) : List (List Int) := (List.range xs.length).map fun j => IL (part sec.length (colF sec xs D j) b)
theorem rowsB_length (sec : List F) (xs : List Int) (D : Int → List F) (b : Nat) : (rowsB sec xs D b).length = xs.length := by simp [rowsB]
theorem stage_length (sec : List F) (xs : List Int) (D : Int → List F) (b i : Nat) : (stage sec xs D b i).length = xs.length := by simp [stage]
theorem stage_one (sec : List F) (xs : List Int) (D : Int → List F) (b : Nat) : stage sec xs D b 1 = rowsB sec xs D b := by
  unfold stage rowsB
  refine List.map_congr_left fun j _ => ?_
  rw [if_neg (by omega)]
theorem part_same (n : Nat) (f : Nat → F) (b : Nat) (h : f b = 0#8) : part n f (b + 1) = part n f b := by
  refine List.ext_getElem (by simp [part, tab]) fun i h1 h2 => ?_
  simp only [part, tab, List.getElem_map, List.getElem_range]
  by_cases e : i = b
  · subst e
    rw [if_pos (by omega), if_neg (by omega), h]
  · by_cases h3 : i < b
    · rw [if_pos h3, if_pos (by omega)]
    · rw [if_neg h3, if_neg (by omega)]
theorem stage_end (sec : List F) (xs : List Int) (D : Int → List F) (b i : Nat) (h : (fitP sec xs D b).length ≤ i) : stage sec xs D b i = rowsB sec xs D (b + 1) := by
  unfold stage rowsB
  refine List.map_congr_left fun j _ => ?_
  by_cases e : j + 1 < i
  · rw [if_pos e]
  · rw [if_neg e, part_same]
    exact co_bel _ _ (by omega)
theorem range_set {α : Type} (T : Nat) (g : Nat → α) (m : Nat) (v : α) : ((List.range T).map g).set m v = (List.range T).map fun j => if j = m then v else g j := by
  refine List.ext_getElem (by simp) fun i h1 h2 => ?_
  rw [List.getElem_set]
  simp only [List.getElem_map, List.getElem_range]
  by_cases e : m = i
  · rw [if_pos e, if_pos e.symm]
  · rw [if_neg e, if_neg (fun h => e h.symm)]
theorem rd_stage (sec : List F) (xs : List Int) (D : Int → List F) (b i : Nat) (h : i < xs.length) : rd_L2 (stage sec xs D b (i + 1)) (i : Int) = IL (part sec.length (colF sec xs D i) b) := by
  simp [rd_L2, stage, h]
theorem stage_set (sec : List F) (xs : List Int) (D : Int → List F) (b i : Nat) :
    (stage sec xs D b (i + 1)).set i (IL (part sec.length (colF sec xs D i) (b + 1))) = stage sec xs D b (i + 2) := by
  unfold stage
  rw [range_set]
  refine List.map_congr_left fun j _ => ?_
  by_cases e : j = i
  · subst e
    rw [if_pos rfl, if_pos (by omega)]
  · rw [if_neg e]
    by_cases h : j + 1 < i + 1
    · rw [if_pos h, if_pos (by omega)]
    · rw [if_neg h, if_neg (by omega)]
section
variable {sec : List F} {xs : List Int} {D : Int → List F}
theorem Fits_l3_ev (hn : sec.length ≤ 1000) (hxl : xs.length ≤ 15) (b : Nat) (hb : b < sec.length) (hp : (fitP sec xs D b).length ≤ xs.length + 1) (R : List (List Int) × Int)
    (hend : Ev (fun k => shamir_Fits.l1 k (sharesD D xs) (rowsB sec xs D (b + 1)) (IL sec) (sec.length : Int) ((b + 1 : Nat) : Int)) R) (d : Nat) : ∀ i, (fitP sec xs D b).length ≤ i + d + 1 →
    Ev (fun k => shamir_Fits.l3 k (sharesD D xs) (stage sec xs D b (i + 1)) (b : Int) (IL (fitP sec xs D b)) ((i : Int) + 1) (IL sec) (sec.length : Int) (b : Int)) R := by
  induction d with
  | zero =>
    intro i hi
    refine Ev.step (fun k => shamir_Fits.l3.eq_2 _ _ _ _ _ _ _ _ _) ?_
    simp only [IL_length, if_neg (show ¬ ((i : Int) + 1 < ((fitP sec xs D b).length : Int)) by omega), w64 (show -1000000000000000 ≤ (b : Int) + 1 by omega) (by omega)]
    rw [stage_end _ _ _ _ _ (by omega)]
    exact hend
  | succ d ih =>
    intro i hi
    by_cases hlt : i + 1 < (fitP sec xs D b).length
    · have hi1 : i < xs.length := by omega
      refine Ev.step (fun k => shamir_Fits.l3.eq_2 _ _ _ _ _ _ _ _ _) ?_
      have hw : wrap64 ((i : Int) + 1 - 1) = (i : Int) := by unfold wrap64; omega
      have hw2 : wrap64 ((i : Int) + 1 + 1) = ((i + 1 : Nat) : Int) + 1 := by unfold wrap64; omega
      have hr : rd (IL (fitP sec xs D b)) ((i : Int) + 1) = I (colF sec xs D i b) := rd_co (p := fitP sec xs D b) (i + 1)
      simp only [IL_length, if_pos (show (i : Int) + 1 < ((fitP sec xs D b).length : Int) by omega), hw, hw2, hr, if_pos (show (0 : Int) ≤ (i : Int) by omega), stage_length, if_pos (show (i : Int) < (xs.length : Int) by omega), if_pos (show (0 : Int) ≤ (i : Int) + 1 by omega),
        if_pos (show (0 : Int) ≤ (b : Int) by omega), rd_stage _ _ _ _ _ hi1, part_length, if_pos (show (b : Int) < (sec.length : Int) by omega), Int.toNat_natCast, IL_set, part_set, stage_set]
      exact ih (i + 1) (by omega)
    · refine Ev.step (fun k => shamir_Fits.l3.eq_2 _ _ _ _ _ _ _ _ _) ?_
      simp only [IL_length, if_neg (show ¬ ((i : Int) + 1 < ((fitP sec xs D b).length : Int)) by omega), w64 (show -1000000000000000 ≤ (b : Int) + 1 by omega) (by omega)]
      rw [stage_end _ _ _ _ _ (by omega)]
      exact hend
theorem Fits_l2_ev (hn : sec.length ≤ 1000) (hxl : xs.length ≤ 15) (hD : ∀ x ∈ xs, (D x).length = sec.length) (hx : ∀ x ∈ xs, 1 ≤ x ∧ x ≤ 255) (hnd : (0#8 :: xs.map Fi).Nodup) (b : Nat) (hb : b < sec.length) (R : List (List Int) × Int)
    (hend : Ev (fun k => shamir_Fits.l1 k (sharesD D xs) (rowsB sec xs D (b + 1)) (IL sec) (sec.length : Int) ((b + 1 : Nat) : Int)) R) (d : Nat) : ∀ m, m + d = xs.length →
    Ev (fun k => shamir_Fits.l2 k (sharesD D xs) (rowsB sec xs D b) (b : Int) (IL (0#8 :: (xs.take m).map Fi)) (IL (co sec b :: (xs.take m).map fun x => co (D x) b)) (IL sec) (sec.length : Int) (b : Int) (sharesD D xs) (xs.length : Int) (m : Int)) R := by
  induction d with
  | zero =>
    intro m hm
    obtain rfl : m = xs.length := by omega
    refine Ev.step (fun k => shamir_Fits.l2.eq_2 _ _ _ _ _ _ _ _ _ _ _ _) ?_
    simp only [if_neg (show ¬ ((xs.length : Int) < (xs.length : Int)) by omega), List.take_length]
    have hlen : (0#8 :: xs.map Fi).length = (co sec b :: xs.map fun x => co (D x) b).length := by simp
    refine Ev.bind (Interpolate_ev hlen hnd (by simp; omega)) ?_
    have hp := itP_len hlen hnd
    simp only [List.length_cons, List.length_map] at hp
    have := Fits_l3_ev hn hxl b hb hp R hend (fitP sec xs D b).length 0 (by omega)
    rw [stage_one] at this
    exact this
  | succ d ih =>
    intro m hm
    have hml : m < xs.length := by omega
    have hxm := hx _ (List.getElem_mem hml)
    have hI : xs[m] % 256 = I (Fi xs[m]) := by rw [I_Fi (by omega) (by omega)]; omega
    refine Ev.step (fun k => shamir_Fits.l2.eq_2 _ _ _ _ _ _ _ _ _ _ _ _) ?_
    simp only [if_pos (show (m : Int) < (xs.length : Int) by omega), if_pos (show (0 : Int) ≤ (m : Int) by omega), sharesD_length, rd_sharesD hml, Option.bind_some, hI, IL_length, List.length_cons, List.length_nil, List.length_map, List.length_take,
      if_pos (show min m xs.length + 1 + (0 + 1) < 140737488355328 by omega), if_pos (show (0 : Int) ≤ (b : Int) by omega), hD _ (List.getElem_mem hml), if_pos (show (b : Int) < (sec.length : Int) by omega), rd_co, IL_snoc, w64 (show -1000000000000000 ≤ (m : Int) + 1 by omega) (by omega)]
    have := ih (m + 1) (by omega)
    rw [List.take_succ_eq_append_getElem hml, List.map_append, List.map_append, ← List.cons_append, ← List.cons_append] at this
    exact this
theorem Fits_l1_ev (hn : sec.length ≤ 1000) (hxl : xs.length ≤ 15) (hD : ∀ x ∈ xs, (D x).length = sec.length) (hx : ∀ x ∈ xs, 1 ≤ x ∧ x ≤ 255) (hnd : (0#8 :: xs.map Fi).Nodup) (d : Nat) : ∀ b, b + d = sec.length →
    Ev (fun k => shamir_Fits.l1 k (sharesD D xs) (rowsB sec xs D b) (IL sec) (sec.length : Int) (b : Int)) (rowsB sec xs D sec.length, 0) := by
  induction d with
  | zero =>
    intro b hb
    obtain rfl : b = sec.length := by omega
    refine Ev.step (fun k => shamir_Fits.l1.eq_2 _ _ _ _ _ _) ?_
    simp only [if_neg (show ¬ ((sec.length : Int) < (sec.length : Int)) by omega)]
    exact Ev.now _
  | succ d ih =>
    intro b hb
    refine Ev.step (fun k => shamir_Fits.l1.eq_2 _ _ _ _ _ _) ?_
    simp only [if_pos (show (b : Int) < (sec.length : Int) by omega), if_pos (show (0 : Int) ≤ (b : Int) by omega), IL_length, sharesD_length, rd_co]
    exact Fits_l2_ev hn hxl hD hx hnd b (by omega) _ (ih (b + 1) (by omega)) xs.length 0 (by omega)
def zerosJ (n T j : Nat) : List (List Int) := (List.range T).map fun i => if i < j then IL (List.replicate n 0#8) else []
theorem Fits_l0_ev (hn : sec.length ≤ 1000) (hxl : xs.length ≤ 15) (hD : ∀ x ∈ xs, (D x).length = sec.length) (hx : ∀ x ∈ xs, 1 ≤ x ∧ x ≤ 255) (hnd : (0#8 :: xs.map Fi).Nodup) (d : Nat) : ∀ j, j + d = xs.length →
    Ev (fun k => shamir_Fits.l0 k (IL sec) (sharesD D xs) (zerosJ sec.length xs.length j) (xs.length : Int) (j : Int)) (rowsB sec xs D sec.length, 0) := by
  induction d with
  | zero =>
    intro j hj
    obtain rfl : j = xs.length := by omega
    refine Ev.step (fun k => shamir_Fits.l0.eq_2 _ _ _ _ _ _) ?_
    simp only [if_neg (show ¬ ((xs.length : Int) < (xs.length : Int)) by omega), IL_length]
    have e : zerosJ sec.length xs.length xs.length = rowsB sec xs D 0 := by
      unfold zerosJ rowsB
      refine List.map_congr_left fun i hi => ?_
      rw [if_pos (List.mem_range.1 hi), part_zero]
    rw [e]
    exact Fits_l1_ev hn hxl hD hx hnd sec.length 0 (by omega)
  | succ d ih =>
    intro j hj
    have hjl : j < xs.length := by omega
    refine Ev.step (fun k => shamir_Fits.l0.eq_2 _ _ _ _ _ _) ?_
    have hz : (zerosJ sec.length xs.length j).length = xs.length := by simp [zerosJ]
    have hs : (zerosJ sec.length xs.length j).set j (IL (List.replicate sec.length 0#8)) = zerosJ sec.length xs.length (j + 1) := by
      unfold zerosJ
      rw [range_set]
      refine List.map_congr_left fun i _ => ?_
      by_cases e : i = j
      · rw [if_pos e, if_pos (by omega)]
      · rw [if_neg e]
        by_cases h : i < j
        · rw [if_pos h, if_pos (by omega)]
        · rw [if_neg h, if_neg (by omega)]
    simp only [if_pos (show (j : Int) < (xs.length : Int) by omega), IL_length, if_pos (show (0 : Int) ≤ (sec.length : Int) by omega), Int.toNat_natCast, if_pos (show sec.length ≤ 281474976710656 by omega), if_pos (show (0 : Int) ≤ (j : Int) by omega), hz, IL_replicate, hs,
      w64 (show -1000000000000000 ≤ (j : Int) + 1 by omega) (by omega)]
    exact ih (j + 1) (by omega)
theorem rowsB_full : rowsB sec xs D sec.length = (List.range xs.length).map fun j => IL (fitL sec xs D j) := by
  unfold rowsB
  refine List.map_congr_left fun j _ => ?_
  rw [part_full]
  rfl
theorem Fits_ev (hn : sec.length ≤ 1000) (hxl : xs.length ≤ 15) (hD : ∀ x ∈ xs, (D x).length = sec.length) (hx : ∀ x ∈ xs, 1 ≤ x ∧ x ≤ 255) (hxn : xs.Nodup) (hnd : (0#8 :: xs.map Fi).Nodup) :
    Ev (fun k => shamir_Fits.f k (IL sec) (sharesD D xs) ((xs.length : Int) + 1)) ((List.range xs.length).map fun j => IL (fitL sec xs D j), 0) := by
  have hw : wrap64 ((xs.length : Int) + 1 - 1) = (xs.length : Int) := by unfold wrap64; omega
  have hj0 : Ev (fun k => shamir_Fits.j0 k (IL sec) (sharesD D xs) ((xs.length : Int) + 1) false) ((List.range xs.length).map fun j => IL (fitL sec xs D j), 0) := by
    refine Ev.step (fun k => shamir_Fits.j0.eq_2 _ _ _ _ _) ?_
    simp only [if_neg (show ¬ (false = true) by decide), hw, if_pos (show (0 : Int) ≤ (xs.length : Int) by omega), Int.toNat_natCast, if_pos (show xs.length ≤ 11728124029610 by omega), Option.bind_some, List.length_replicate]
    have := Fits_l0_ev hn hxl hD hx hnd xs.length 0 (by omega)
    rw [rowsB_full] at this
    have e : zerosJ sec.length xs.length 0 = List.replicate xs.length [] := by
      refine List.ext_getElem (by simp [zerosJ]) fun i h1 h2 => ?_
      simp [zerosJ]
    rw [e] at this
    exact this
  unfold shamir_Fits.f
  refine Ev.bind (check_ev hn hD hx hxn hxl) ?_
  simp only [if_true, sharesD_length, hw, IL_length, decide_eq_false (show ¬ ((sec.length : Int) > 1024) by omega)]
  by_cases h0 : (xs.length : Int) > 0
  · simp only [if_pos h0, size_sharesD hD (show 0 < xs.length by omega), Option.bind_some, if_true]
    exact hj0
  · simp only [if_neg h0]
    exact hj0
end
/-! the same shares -/
theorem str_eq (p q : List F) : ((strOfNums (IL p)).toList = (strOfNums (IL q)).toList) ↔ p = q := by
  constructor
  · intro h
    rw [Lib.toList_data, Lib.toList_data, strOfNums_data, strOfNums_data, IL, IL, List.map_map, List.map_map] at h
    refine (List.map_inj_right (f := (fun n : Int => UInt8.ofNat n.toNat) ∘ I) ?_).1 h
    intro a b hab
    have h2 := congrArg UInt8.toNat hab
    have ha := a.isLt
    have hb := b.isLt
    simp only [Function.comp, I, Int.toNat_natCast, UInt8.toNat_ofNat'] at h2
    exact BitVec.eq_of_toNat_eq (by omega)
  · intro h
    rw [h]
theorem str_beq (p q : List F) : ((strOfNums (IL p)).toList == (strOfNums (IL q)).toList) = decide (p = q) := by
  rw [Bool.eq_iff_iff, beq_iff_eq, decide_eq_true_iff, str_eq]
theorem Same_l0_ev {D E : Int → List F} {xs : List Int} (hxl : xs.length ≤ 15) (d : Nat) : ∀ j, j + d = xs.length →
    Ev (fun k => kinkeeptop_a16Same.l0 k (sharesD D xs) (sharesD E xs) (xs.length : Int) (j : Int)) (decide (∀ x ∈ xs.drop j, D x = E x)) := by
  induction d with
  | zero =>
    intro j hj
    obtain rfl : j = xs.length := by omega
    refine Ev.step (fun k => kinkeeptop_a16Same.l0.eq_2 _ _ _ _ _) ?_
    simp only [if_neg (show ¬ ((xs.length : Int) < (xs.length : Int)) by omega)]
    rw [decide_eq_true (by rw [List.drop_length]; intro x hx; cases hx)]
    exact Ev.now _
  | succ d ih =>
    intro j hj
    have hjl : j < xs.length := by omega
    refine Ev.step (fun k => kinkeeptop_a16Same.l0.eq_2 _ _ _ _ _) ?_
    simp only [if_pos (show (j : Int) < (xs.length : Int) by omega), if_pos (show (0 : Int) ≤ (j : Int) by omega), sharesD_length, rd_sharesD hjl, if_true, str_eq, w64 (show -1000000000000000 ≤ (j : Int) + 1 by omega) (by omega)]
    by_cases h : D xs[j] = E xs[j]
    · simp only [if_pos h]
      have e : (∀ x ∈ xs.drop j, D x = E x) ↔ (∀ x ∈ xs.drop (j + 1), D x = E x) := by
        rw [List.drop_eq_getElem_cons hjl, List.forall_mem_cons]
        exact ⟨fun z => z.2, fun z => ⟨h, z⟩⟩
      rw [decide_eq_decide.2 e]
      exact ih (j + 1) (by omega)
    · simp only [if_neg h]
      rw [decide_eq_false (fun h2 => h (h2 _ (by rw [List.drop_eq_getElem_cons hjl]; exact List.mem_cons_self)))]
      exact Ev.now _
theorem Same_ev {D E : Int → List F} {xs : List Int} (hxl : xs.length ≤ 15) : Ev (fun k => kinkeeptop_a16Same.f k (sharesD D xs) (sharesD E xs)) (decide (∀ x ∈ xs, D x = E x)) := by
  unfold kinkeeptop_a16Same.f
  simp only [sharesD_length, if_true]
  exact Same_l0_ev hxl xs.length 0 (by omega)
end Go.Proofs.Ytadcoeinnomjlaa.PG
