/- The reference's Distinct and Interpolate. -/
import Derived.Test.YtjoiiclahcghbaaPGx24
import Derived.Test.YtjoiiclahcghbaaPr
namespace Go.Proofs.Ytjoiiclahcghbaa.PG
open Go.RowKit Go.Proofs.YtjoiiclahcghbaaW.PrintWords Go.Proofs.Ytjoiiclahcghbaa.Gf
/-! Distinct -/
theorem rDistinct_l1_ev (p : List F) (hB : p.length ≤ 1000000) (i : Nat) (hi : i < p.length)
    (hn : p[i] ∉ p.take i → Ev (fun k => kinkeepref06_Distinct.l0 k (IL p) (p.length : Int) ((i + 1 : Nat) : Int)) (decide p.Nodup)) (d : Nat) : ∀ j, j + d = i → p[i] ∉ p.take j →
    Ev (fun k => kinkeepref06_Distinct.l1 k (IL p) (i : Int) (j : Int) (p.length : Int) (i : Int)) (decide p.Nodup) := by
  induction d with
  | zero =>
    intro j hj h
    refine Ev.step (fun k => kinkeepref06_Distinct.l1.eq_2 _ _ _ _ _ _) ?_
    simp only [if_neg (show ¬ ((j : Int) < (i : Int)) by omega), w64 (show -1000000000000000 ≤ (i : Int) + 1 by omega) (by omega)]
    have e : j = i := by omega
    subst e
    exact hn h
  | succ d ih =>
    intro j hj h
    have hjl : j < p.length := by omega
    refine Ev.step (fun k => kinkeepref06_Distinct.l1.eq_2 _ _ _ _ _ _) ?_
    simp only [if_pos (show ((j : Int) < (i : Int)) by omega), if_pos (show (0 : Int) ≤ (i : Int) by omega), if_pos (show (0 : Int) ≤ (j : Int) by omega), IL_length, if_pos (show (i : Int) < (p.length : Int) by omega), if_pos (show (j : Int) < (p.length : Int) by omega), rd_IL hi, rd_IL hjl, I_inj, w64 (show -1000000000000000 ≤ (j : Int) + 1 by omega) (by omega)]
    by_cases e : p[i] = p[j]
    · simp only [if_pos e]
      rw [decide_eq_false (fun hnd => by
        have := (List.getElem_inj hnd).1 e
        omega)]
      exact Ev.now _
    · simp only [if_neg e]
      refine ih (j + 1) (by omega) ?_
      rw [List.take_succ_eq_append_getElem hjl, List.mem_append, List.mem_singleton]
      rintro (h1 | h1)
      · exact h h1
      · exact e h1
theorem rDistinct_l0_ev (p : List F) (hB : p.length ≤ 1000000) (d : Nat) : ∀ i, i + d = p.length → (p.take i).Nodup → Ev (fun k => kinkeepref06_Distinct.l0 k (IL p) (p.length : Int) (i : Int)) (decide p.Nodup) := by
  induction d with
  | zero =>
    intro i hi h
    refine Ev.step (fun k => kinkeepref06_Distinct.l0.eq_2 _ _ _ _) ?_
    simp only [if_neg (show ¬ ((i : Int) < (p.length : Int)) by omega)]
    rw [show i = p.length by omega, List.take_length] at h
    rw [decide_eq_true h]
    exact Ev.now _
  | succ d ih =>
    intro i hi h
    have hp : i < p.length := by omega
    refine Ev.step (fun k => kinkeepref06_Distinct.l0.eq_2 _ _ _ _) ?_
    simp only [if_pos (show ((i : Int) < (p.length : Int)) by omega)]
    refine rDistinct_l1_ev p hB i hp (fun hm => ih (i + 1) (by omega) ?_) i 0 (by omega) (by simp)
    rw [List.take_succ_eq_append_getElem hp, List.nodup_append]
    refine ⟨h, by simp, fun a h1 b h2 => ?_⟩
    rw [List.mem_singleton] at h2
    subst h2
    exact fun e => hm (e ▸ h1)
theorem rDistinct_ev (p : List F) (hB : p.length ≤ 1000000) : Ev (fun k => kinkeepref06_Distinct.f k (IL p)) (decide p.Nodup) := by
  unfold kinkeepref06_Distinct.f
  simp only [IL_length]
  exact rDistinct_l0_ev p hB p.length 0 (by omega) (by simp)
/-! Interpolate -/
theorem rInterpolate_l1_ev {xs ys out : List F} (hl : xs.length = ys.length) (hn : xs.Nodup) (hB : xs.length ≤ 1000) (ho : out.length ≤ 1000) (i : Nat) (hi : i < xs.length) (R : List Int) (d : Nat) : ∀ (j : Nat) (b : List F), j + d = xs.length → b.length ≤ j + 1 →
    Ev (fun k => kinkeepref06_Interpolate.l0 k (IL xs) (IL ys) (IL (addP out (mulP (basGo xs i d j b) [co ys i]))) (xs.length : Int) ((i + 1 : Nat) : Int)) R →
    Ev (fun k => kinkeepref06_Interpolate.l1 k (IL xs) (IL ys) (IL out) (i : Int) (IL b) (xs.length : Int) (i : Int) (xs.length : Int) (j : Int)) R := by
  induction d with
  | zero =>
    intro j b hj hb h
    refine Ev.step (fun k => kinkeepref06_Interpolate.l1.eq_2 _ _ _ _ _ _ _ _ _ _) ?_
    have hyl : (i : Int) < ((IL ys).length : Int) := by rw [IL_length]; omega
    simp only [if_neg (show ¬ ((j : Int) < (xs.length : Int)) by omega), if_pos (show (0 : Int) ≤ (i : Int) by omega), if_pos hyl, rd_co, const_IL, w64 (show -1000000000000000 ≤ (i : Int) + 1 by omega) (by omega)]
    have hm := mulP_const_len b (co ys i)
    refine Ev.bind (rMulP_ev b [co ys i] (by simp <;> omega)) (Ev.bind (rAdd_ev _ _ (by omega) (by omega)) ?_)
    exact h
  | succ d ih =>
    intro j b hj hb h
    have hjl : j < xs.length := by omega
    refine Ev.step (fun k => kinkeepref06_Interpolate.l1.eq_2 _ _ _ _ _ _ _ _ _ _) ?_
    rw [basGo] at h
    by_cases e : j = i
    · rw [if_pos e] at h
      simp only [if_pos (show ((j : Int) < (xs.length : Int)) by omega), if_pos (show (j : Int) = (i : Int) by omega), w64 (show -1000000000000000 ≤ (j : Int) + 1 by omega) (by omega)]
      exact ih (j + 1) b (by omega) (by omega) h
    · rw [if_neg e] at h
      have h1 := mulP_root_len b (co xs j)
      have h2 := mulP_const_len (mulP b [co xs j, 1#8]) (inv (co xs i ^^^ co xs j))
      simp only [if_pos (show ((j : Int) < (xs.length : Int)) by omega), if_neg (show ¬ (j : Int) = (i : Int) by omega), if_pos (show (0 : Int) ≤ (j : Int) by omega), IL_length, rd_co, root_IL, w64 (show -1000000000000000 ≤ (j : Int) + 1 by omega) (by omega)]
      refine Ev.bind (rMulP_ev b [co xs j, 1#8] (by simp <;> omega)) ?_
      simp only [if_pos (show (0 : Int) ≤ (i : Int) by omega), if_pos (show ((i : Int) < (xs.length : Int)) by omega), xor_I]
      refine Ev.bind (rInv_ev (xor_ne (nodup_co hn i j hi hjl e))) ?_
      simp only [const_IL]
      refine Ev.bind (rMulP_ev _ _ (by simp <;> omega)) ?_
      exact ih (j + 1) _ (by omega) (by omega) h
theorem rInterpolate_l0_ev {xs ys : List F} (hl : xs.length = ys.length) (hn : xs.Nodup) (hB : xs.length ≤ 1000) (d : Nat) : ∀ (i : Nat) (out : List F), i + d = xs.length → Nrm out → out.length ≤ xs.length →
    Ev (fun k => kinkeepref06_Interpolate.l0 k (IL xs) (IL ys) (IL out) (xs.length : Int) (i : Int)) (IL (lagGo xs ys d i out)) := by
  induction d with
  | zero =>
    intro i out hi h1 h2
    refine Ev.step (fun k => kinkeepref06_Interpolate.l0.eq_2 _ _ _ _ _ _) ?_
    simp only [if_neg (show ¬ ((i : Int) < (xs.length : Int)) by omega)]
    have := rTrim_ev out (by omega)
    rw [h1] at this
    exact Ev.bind this (Ev.now _)
  | succ d ih =>
    intro i out hi h1 h2
    refine Ev.step (fun k => kinkeepref06_Interpolate.l0.eq_2 _ _ _ _ _ _) ?_
    simp only [if_pos (show ((i : Int) < (xs.length : Int)) by omega), IL_length]
    rw [lagGo]
    have hb := basGo_len xs i xs.length 0 1 [1#8] (by simp)
    rw [if_pos (by omega)] at hb
    refine rInterpolate_l1_ev hl hn hB (by omega) i (by omega) _ xs.length 0 [1#8] (by omega) (by simp) ?_
    refine ih (i + 1) _ (by omega) (nrm_addP _ _) ?_
    have := trim_len_le (p := addP out (mulP (basGo xs i xs.length 0 [1#8]) [co ys i])) (n := xs.length) (by
      rw [co_addP, co_mulP, co_const, cv_sm_right, cv_on]
      exact ((co_bel out).mono h2).ad (Bel.sm _ ((co_bel _).mono (by omega))))
    rwa [nrm_addP] at this
theorem rInterpolate_ev {xs ys : List F} (hl : xs.length = ys.length) (hn : xs.Nodup) (hB : xs.length ≤ 1000) : Ev (fun k => kinkeepref06_Interpolate.f k (IL xs) (IL ys)) (IL (itP xs ys)) := by
  unfold kinkeepref06_Interpolate.f
  rw [← lag_eq hl hn]
  simp only [IL_length]
  exact rInterpolate_l0_ev hl hn hB xs.length 0 [] (by omega) nrm_nil (by simp)
end Go.Proofs.Ytjoiiclahcghbaa.PG
