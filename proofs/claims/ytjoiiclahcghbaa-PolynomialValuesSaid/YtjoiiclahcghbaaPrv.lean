/- The reference's Derivative, FromRoots, Roots, Multiplicity. -/
import Derived.Test.YtjoiiclahcghbaaPGx40
import Derived.Test.YtjoiiclahcghbaaPr
namespace Go.Proofs.Ytjoiiclahcghbaa.PG
open Go.RowKit Go.Proofs.YtjoiiclahcghbaaW.PrintWords Go.Proofs.Ytjoiiclahcghbaa.Gf
/-! Derivative -/
theorem rDerivative_l0_ev (p : List F) (hB : p.length ≤ 1000000) (d : Nat) : ∀ i, i + d = p.length - 1 → Ev (fun k => kinkeepref06_Derivative.l0 k (IL p) (IL (tab i (dr (co p)))) ((i + 1 : Nat) : Int)) (IL (derP p)) := by
  induction d with
  | zero =>
    intro i hi
    refine Ev.step (fun k => kinkeepref06_Derivative.l0.eq_2 _ _ _ _) ?_
    simp only [IL_length, if_neg (show ¬ (((i + 1 : Nat) : Int) < (p.length : Int)) by omega)]
    refine Ev.bind (rTrim_ev _ (by rw [tab_length]; omega)) ?_
    rw [show derP p = trim (tab i (dr (co p))) from trim_of_co (by
      rw [co_tab (dr_bel (co_bel p)), co_tab (fun t ht => ?_)]
      unfold dr
      split
      · exact co_bel p _ (by omega)
      · rfl)]
    exact Ev.now _
  | succ d ih =>
    intro i hi
    refine Ev.step (fun k => kinkeepref06_Derivative.l0.eq_2 _ _ _ _) ?_
    have := ih (i + 1) (by omega)
    rw [tab_succ] at this
    have hw : wrap64 (((i + 1 : Nat) : Int) + 1) = ((i + 1 + 1 : Nat) : Int) := by rw [w64 (by omega) (by omega)]; omega
    have hm : Int.tmod ((i + 1 : Nat) : Int) 2 = (((i + 1) % 2 : Nat) : Int) := by
      rw [Int.tmod_eq_emod_of_nonneg (by omega)]
      omega
    simp only [IL_length, if_pos (show (((i + 1 : Nat) : Int) < (p.length : Int)) by omega), hm, hw, tab_length, if_pos (show i < 140737488355328 by omega)]
    by_cases h : i % 2 = 0
    · simp only [if_pos (show (((i + 1) % 2 : Nat) : Int) = 1 by omega), if_pos (show (0 : Int) ≤ ((i + 1 : Nat) : Int) by omega), rd_co, IL_snoc]
      rw [show dr (co p) i = co p (i + 1) by unfold dr; rw [if_pos h]] at this
      exact this
    · simp only [if_neg (show ¬ (((i + 1) % 2 : Nat) : Int) = 1 by omega)]
      rw [show dr (co p) i = 0#8 by unfold dr; rw [if_neg h], ← IL_snoc] at this
      exact this
theorem rDerivative_ev (p : List F) (hB : p.length ≤ 1000000) : Ev (fun k => kinkeepref06_Derivative.f k (IL p)) (IL (derP p)) := by
  unfold kinkeepref06_Derivative.f
  exact rDerivative_l0_ev p hB (p.length - 1) 0 (by omega)
/-! FromRoots, Roots, Multiplicity -/
theorem rFromRoots_l0_ev (l : List F) (hB : l.length ≤ 10000) (d : Nat) : ∀ (i : Nat) (acc : List F), i + d = l.length → Nrm acc → acc.length + d ≤ 100000 →
    Ev (fun k => kinkeepref06_FromRoots.l0 k (IL acc) (IL l) (l.length : Int) (i : Int)) (IL (frL (l.drop i) acc)) := by
  induction d with
  | zero =>
    intro i acc hi _ _
    refine Ev.step (fun k => kinkeepref06_FromRoots.l0.eq_2 _ _ _ _ _) ?_
    simp only [if_neg (show ¬ ((i : Int) < (l.length : Int)) by omega)]
    rw [List.drop_of_length_le (by omega)]
    exact Ev.now _
  | succ d ih =>
    intro i acc hi h hb
    have hp : i < l.length := by omega
    refine Ev.step (fun k => kinkeepref06_FromRoots.l0.eq_2 _ _ _ _ _) ?_
    simp only [if_pos (show ((i : Int) < (l.length : Int)) by omega), if_pos (show (0 : Int) ≤ (i : Int) by omega), IL_length, rd_IL hp, root_IL, w64 (show -1000000000000000 ≤ (i : Int) + 1 by omega) (by omega)]
    refine Ev.bind (rMulP_ev acc [l[i], 1#8] (by simp <;> omega)) ?_
    rw [List.drop_eq_getElem_cons hp, frL, mulP_root h]
    have h1 := mulP_root_len acc l[i]
    rw [mulP_root h] at h1
    exact ih (i + 1) _ (by omega) (nrm_prodL (nrm_root _) h) (by omega)
theorem rFromRoots_ev (l : List F) (hB : l.length ≤ 10000) : Ev (fun k => kinkeepref06_FromRoots.f k (IL l)) (IL (frL l [1#8])) := by
  unfold kinkeepref06_FromRoots.f
  simp only [IL_length]
  have := rFromRoots_l0_ev l hB l.length 0 [1#8] (by omega) nrm_one (by simp <;> omega)
  rw [List.drop_zero] at this
  exact this
theorem rRoots_l0_ev (p : List F) (hB : p.length ≤ 250) (d : Nat) : ∀ (i : Nat) (acc : List F), i + d = 256 → acc.length ≤ i → Ev (fun k => kinkeepref06_Roots.l0 k (IL p) (IL acc) (i : Int)) (IL (acc ++ rootsGo p d i)) := by
  induction d with
  | zero =>
    intro i acc hi _
    refine Ev.step (fun k => kinkeepref06_Roots.l0.eq_2 _ _ _ _) ?_
    simp only [if_neg (show ¬ ((i : Int) < 256) by omega), rootsGo, List.append_nil]
    exact Ev.now _
  | succ d ih =>
    intro i acc hi ha
    refine Ev.step (fun k => kinkeepref06_Roots.l0.eq_2 _ _ _ _) ?_
    have hw : wrap64 ((i : Int) + 1) = ((i + 1 : Nat) : Int) := by rw [w64 (by omega) (by omega)]; omega
    simp only [if_pos (show ((i : Int) < 256) by omega), byteI, hw]
    refine Ev.bind (rEval_ev p _ hB) ?_
    rw [rootsGo]
    by_cases h : ev p (BitVec.ofNat 8 i) = 0#8
    · simp only [I_eq_zero, if_pos h, IL_length, if_pos (show acc.length < 140737488355328 by omega), IL_snoc]
      have := ih (i + 1) (acc ++ [BitVec.ofNat 8 i]) (by omega) (by rw [List.length_append, List.length_singleton]; omega)
      rw [List.append_assoc] at this
      exact this
    · simp only [I_eq_zero, if_neg h]
      exact ih (i + 1) acc (by omega) (by omega)
theorem rRoots_ev (p : List F) (hB : p.length ≤ 250) : Ev (fun k => kinkeepref06_Roots.f k (IL p)) (IL (rootsP p)) := by
  unfold kinkeepref06_Roots.f
  exact rRoots_l0_ev p hB 256 0 [] (by omega) (by simp)
theorem divP_trim (p q : List F) : divP (trim p) q = divP p q := by unfold divP; rw [trim_trim]
theorem rMultiplicity_l0_ev (x : F) (m : Nat) : ∀ (p : List F) (n : Nat), trim p ≠ [] → (trim p).length ≤ m → p.length ≤ 10000 → n + (trim p).length ≤ 1000000 → Ev (fun k => kinkeepref06_Multiplicity.l0 k (IL p) (I x) (n : Int)) ((n + multP p x : Nat) : Int) := by
  induction m with
  | zero => intro p n h0 h; exact absurd (List.eq_nil_of_length_eq_zero (by omega)) h0
  | succ m ih =>
    intro p n h0 hm hp hB
    refine Ev.step (fun k => kinkeepref06_Multiplicity.l0.eq_2 _ _ _ _) ?_
    have hl : 0 < (trim p).length := List.length_pos_iff.2 h0
    have hw : wrap64 ((n : Int) + 1) = ((n + 1 : Nat) : Int) := by rw [w64 (by omega) (by omega)]; omega
    have hroot : trim [x, 1#8] = [x, 1#8] := nrm_root x
    have hD := rDivMod_ev p [x, 1#8] (by rw [hroot]; simp) hp (by simp)
    rw [hroot] at hD
    simp only [root_IL, hw]
    refine Ev.bind hD ?_
    rw [← multP_trim, multP_step (nrm_trim p) h0, ev_trim]
    by_cases h : ev p x = 0#8
    · rw [if_pos h, divP_trim]
      obtain ⟨q0, q1, q2⟩ := quo_root (nrm_trim p) h0 (by rw [ev_trim]; exact h)
      rw [divP_trim] at q0 q1 q2
      simp only [(root_iff p x).2 h, IL_length, List.length_nil, if_neg (show ¬ (((0 : Nat) : Int) > 0) by decide)]
      have := ih (divP p [x, 1#8]).1 (n + 1) (by rw [q1]; exact q0) (by rw [q1]; omega) (by have := trim_len p; omega) (by rw [q1]; omega)
      rw [show n + 1 + multP (divP p [x, 1#8]).1 x = n + (multP (divP p [x, 1#8]).1 x + 1) by omega] at this
      exact this
    · rw [if_neg h]
      have hr : (divP p [x, 1#8]).2 ≠ [] := fun e => h ((root_iff p x).1 e)
      have hrl := List.length_pos_iff.2 hr
      simp only [IL_length, if_pos (show (((divP p [x, 1#8]).2.length : Int) > 0) by omega)]
      exact Ev.now _
theorem rMultiplicity_ev (p : List F) (x : F) (hB : p.length ≤ 10000) (h0 : trim p ≠ []) : Ev (fun k => kinkeepref06_Multiplicity.f k (IL p) (I x)) ((multP p x : Nat) : Int) := by
  unfold kinkeepref06_Multiplicity.f
  have ht := trim_len p
  have := rMultiplicity_l0_ev x (trim p).length p 0 h0 (Nat.le_refl _) hB (by omega)
  rw [Nat.zero_add] at this
  exact this
end Go.Proofs.Ytjoiiclahcghbaa.PG
