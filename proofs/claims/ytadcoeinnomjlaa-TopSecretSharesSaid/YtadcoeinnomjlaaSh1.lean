/- What shamir's functions come to, as lists of elements: the values of a sharing. -/
import Derived.Test.YtadcoeinnomjlaaPGx42
import Derived.Test.YtadcoeinnomjlaaPc
namespace Go.Proofs.Ytadcoeinnomjlaa.PG
open Go.RowKit Go.Proofs.YtadcoeinnomjlaaW.PrintWords Go.Proofs.Ytadcoeinnomjlaa.Gf
/-- The polynomial of byte b: the secret's byte, then the coefficients'. -/
def polyAt (sec : List F) (cols : List (List F)) (b : Nat) : List F := co sec b :: cols.map (fun c => co c b)
/-- A share's data. -/
def datum (sec : List F) (cols : List (List F)) (x : F) : List F := tab sec.length (fun b => ev (polyAt sec cols b) x)
def part (n : Nat) (f : Nat → F) (j : Nat) : List F := tab n (fun b => if b < j then f b else 0#8)
theorem part_length (n : Nat) (f : Nat → F) (j : Nat) : (part n f j).length = n := tab_length ..
theorem part_zero (n : Nat) (f : Nat → F) : part n f 0 = List.replicate n 0#8 := by
  refine List.ext_getElem (by simp [part, tab]) fun i h1 h2 => ?_
  simp [part, tab]
theorem part_full (n : Nat) (f : Nat → F) : part n f n = tab n f := by
  refine List.ext_getElem (by simp [part, tab]) fun i h1 h2 => ?_
  have : i < n := by simpa [part, tab] using h1
  simp [part, tab, this]
theorem part_set (n : Nat) (f : Nat → F) (j : Nat) : (part n f j).set j (f j) = part n f (j + 1) := by
  refine List.ext_getElem (by simp [part, tab]) fun i h1 h2 => ?_
  rw [List.getElem_set]
  by_cases e : j = i
  · subst e
    simp [part, tab]
  · rw [if_neg e]
    simp only [part, tab, List.getElem_map, List.getElem_range]
    by_cases h3 : i < j
    · rw [if_pos h3, if_pos (by omega)]
    · rw [if_neg h3, if_neg (by omega)]
theorem rd_L2_IL {cols : List (List F)} {m : Nat} (h : m < cols.length) : rd_L2 (cols.map IL) (m : Int) = IL cols[m] := by
  simp [rd_L2, h]
theorem at1_l1_ev (sec : List F) (cols : List (List F)) (x : F) (hn : sec.length ≤ 1000) (hc : cols.length ≤ 100) (hl : ∀ c ∈ cols, c.length = sec.length) (b : Nat) (hb : b < sec.length) (R : List Int)
    (hend : Ev (fun k => shamir_at1.l0 k (IL sec) (cols.map IL) (I x) (IL (part sec.length (fun b => ev (polyAt sec cols b) x) (b + 1))) (sec.length : Int) ((b + 1 : Nat) : Int)) R) (d : Nat) : ∀ m, m + d = cols.length →
    Ev (fun k => shamir_at1.l1 k (IL sec) (cols.map IL) (I x) (IL (part sec.length (fun b => ev (polyAt sec cols b) x) b)) (b : Int) (IL (polyAt sec (cols.take m) b)) (sec.length : Int) (b : Int) (cols.map IL) (cols.length : Int) (m : Int)) R := by
  induction d with
  | zero =>
    intro m hm
    obtain rfl : m = cols.length := by omega
    refine Ev.step (fun k => shamir_at1.l1.eq_2 _ _ _ _ _ _ _ _ _ _ _ _) ?_
    simp only [if_neg (show ¬ ((cols.length : Int) < (cols.length : Int)) by omega), List.take_length]
    refine Ev.bind (Eval_ev _ x (by simp [polyAt]; omega)) ?_
    simp only [if_pos (show (0 : Int) ≤ (b : Int) by omega), IL_length, part_length, if_pos (show (b : Int) < (sec.length : Int) by omega), Int.toNat_natCast, IL_set, w64 (show -1000000000000000 ≤ (b : Int) + 1 by omega) (by omega)]
    have := hend
    rw [← part_set _ _ b] at this
    exact this
  | succ d ih =>
    intro m hm
    have hml : m < cols.length := by omega
    have hlm := hl _ (List.getElem_mem hml)
    refine Ev.step (fun k => shamir_at1.l1.eq_2 _ _ _ _ _ _ _ _ _ _ _ _) ?_
    simp only [if_pos (show (m : Int) < (cols.length : Int) by omega), if_pos (show (0 : Int) ≤ (m : Int) by omega), List.length_map, if_pos (show (0 : Int) ≤ (b : Int) by omega), rd_L2_IL hml, IL_length, if_pos (show (b : Int) < ((cols[m]).length : Int) by omega),
      if_pos (show (polyAt sec (cols.take m) b).length < 140737488355328 by simp [polyAt]; omega), rd_co, IL_snoc, w64 (show -1000000000000000 ≤ (m : Int) + 1 by omega) (by omega)]
    have := ih (m + 1) (by omega)
    rw [polyAt, List.take_succ_eq_append_getElem hml, List.map_append, ← List.cons_append] at this
    exact this
theorem at1_l0_ev (sec : List F) (cols : List (List F)) (x : F) (hn : sec.length ≤ 1000) (hc : cols.length ≤ 100) (hl : ∀ c ∈ cols, c.length = sec.length) (d : Nat) : ∀ b, b + d = sec.length →
    Ev (fun k => shamir_at1.l0 k (IL sec) (cols.map IL) (I x) (IL (part sec.length (fun b => ev (polyAt sec cols b) x) b)) (sec.length : Int) (b : Int)) (IL (datum sec cols x)) := by
  induction d with
  | zero =>
    intro b hb
    obtain rfl : b = sec.length := by omega
    refine Ev.step (fun k => shamir_at1.l0.eq_2 _ _ _ _ _ _ _) ?_
    simp only [if_neg (show ¬ ((sec.length : Int) < (sec.length : Int)) by omega), part_full]
    exact Ev.now _
  | succ d ih =>
    intro b hb
    refine Ev.step (fun k => shamir_at1.l0.eq_2 _ _ _ _ _ _ _) ?_
    simp only [if_pos (show (b : Int) < (sec.length : Int) by omega), if_pos (show (0 : Int) ≤ (b : Int) by omega), IL_length, List.length_map, rd_co]
    exact at1_l1_ev sec cols x hn hc hl b (by omega) _ (ih (b + 1) (by omega)) cols.length 0 (by omega)
theorem at1_ev (sec : List F) (cols : List (List F)) (x : F) (hn : sec.length ≤ 1000) (hc : cols.length ≤ 100) (hl : ∀ c ∈ cols, c.length = sec.length) :
    Ev (fun k => shamir_at1.f k (IL sec) (cols.map IL) (I x)) (IL (datum sec cols x)) := by
  unfold shamir_at1.f
  simp only [IL_length, if_pos (show (0 : Int) ≤ (sec.length : Int) by omega), Int.toNat_natCast, if_pos (show sec.length ≤ 281474976710656 by omega), IL_replicate]
  have := at1_l0_ev sec cols x hn hc hl sec.length 0 (by omega)
  rw [part_zero] at this
  exact this
/-- The shares of a sharing at the elements xs. -/
def sharesAt (sec : List F) (cols : List (List F)) (xs : List Int) : List S39 := xs.map fun x => ⟨x, IL (datum sec cols (Fi x))⟩
theorem Split_l0_ev (sec : List F) (cols : List (List F)) (xs : List Int) (hn : sec.length ≤ 1000) (hc : cols.length ≤ 100) (hl : ∀ c ∈ cols, c.length = sec.length) (hx : ∀ x ∈ xs, 1 ≤ x ∧ x ≤ 255) (hxl : xs.length ≤ 64) (d : Nat) : ∀ j, j + d = xs.length →
    Ev (fun k => shamir_Split.l0 k (IL sec) (cols.map IL) (sharesAt sec cols (xs.take j)) xs (xs.length : Int) (j : Int)) (sharesAt sec cols xs, 0) := by
  induction d with
  | zero =>
    intro j hj
    obtain rfl : j = xs.length := by omega
    refine Ev.step (fun k => shamir_Split.l0.eq_2 _ _ _ _ _ _ _) ?_
    simp only [if_neg (show ¬ ((xs.length : Int) < (xs.length : Int)) by omega), List.take_length]
    exact Ev.now _
  | succ d ih =>
    intro j hj
    have hjl : j < xs.length := by omega
    have hxj := hx _ (List.getElem_mem hjl)
    have hrd : rd xs (j : Int) = xs[j] := by simp [rd, hjl]
    have hI : xs[j] % 256 = I (Fi xs[j]) := by rw [I_Fi (by omega) (by omega)]; omega
    refine Ev.step (fun k => shamir_Split.l0.eq_2 _ _ _ _ _ _ _) ?_
    simp only [if_pos (show (j : Int) < (xs.length : Int) by omega), if_pos (show (0 : Int) ≤ (j : Int) by omega), hrd, hI]
    refine Ev.bind (at1_ev sec cols _ hn hc hl) ?_
    simp only [if_pos (show (sharesAt sec cols (xs.take j)).length < 4398046511104 by simp [sharesAt]; omega), w64 (show -1000000000000000 ≤ (j : Int) + 1 by omega) (by omega)]
    have := ih (j + 1) (by omega)
    rw [sharesAt, List.take_succ_eq_append_getElem hjl, List.map_append] at this
    exact this
theorem Split_ev (sec : List F) (cols : List (List F)) (xs : List Int) (hn : sec.length ≤ 1000) (hc : cols.length < 16) (hl : ∀ c ∈ cols, c.length = sec.length) (hx : ∀ x ∈ xs, 1 ≤ x ∧ x ≤ 255) (hxl : xs.length ≤ 64) (hnd : xs.Nodup) :
    Ev (fun k => shamir_Split.f k (IL sec) (cols.map IL) xs) (sharesAt sec cols xs, 0) := by
  have h1 : shamir_level.f (cols.map IL) ((IL sec).length : Int) = some true := by
    unfold shamir_level.f
    rw [if_pos ⟨by rw [List.length_map]; exact hc, by omega, fun c hc => by
      obtain ⟨c', h, rfl⟩ := List.mem_map.1 hc
      rw [IL_length, IL_length, hl c' h]⟩]
  have h2 : shamir_elements.f xs = some true := by
    unfold shamir_elements.f
    rw [if_pos ⟨hx, hnd, hxl⟩]
  unfold shamir_Split.f
  simp only [h1, Option.bind_some, if_true, h2, Bool.not_true]
  refine Ev.step (fun k => shamir_Split.j0.eq_2 _ _ _ _ _) ?_
  simp only [if_neg (show ¬ (false = true) by decide), IL_length, if_neg (show ¬ ((sec.length : Int) > 1024) by omega)]
  exact Split_l0_ev sec cols xs hn (by omega) hl hx hxl xs.length 0 (by omega)
end Go.Proofs.Ytadcoeinnomjlaa.PG
