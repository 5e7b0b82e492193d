/- Roots are factors; there are at most as many as the degree, counted with multiplicity; FromRoots has exactly the given ones. No condition (up to 30 coefficients are examined). -/
import Derived.Test.YtjoiiclahcghbaaPGx36
import Derived.Test.YtjoiiclahcghbaaPb
namespace Go.Proofs.Ytjoiiclahcghbaa.Pure
open Go.RowKit Go.Proofs.Ytjoiiclahcghbaa.PG Go.Proofs.YtjoiiclahcghbaaW.PrintWords Go.Proofs.YtjoiiclahcghbaaW.PrintLast Go.Proofs.Ytjoiiclahcghbaa.Gf
theorem among_l0_ev (p f : List F) (x : F) (hp : p.length ≤ 1000) (R : Bool)
    (hend : Ev (fun k => kinkeeplaw06_PolynomialFactors.l0 k (IL p) (I x) (IL f) (decide (x ∈ p)) (IL p) (p.length : Int) (p.length : Int)) R) (d : Nat) : ∀ i, i + d = p.length →
    Ev (fun k => kinkeeplaw06_PolynomialFactors.l0 k (IL p) (I x) (IL f) (decide (x ∈ p.take i)) (IL p) (p.length : Int) (i : Int)) R := by
  induction d with
  | zero =>
    intro i hi
    rw [show i = p.length by omega, List.take_length]
    exact hend
  | succ d ih =>
    intro i hi
    have hil : i < p.length := by omega
    refine Ev.step (fun k => kinkeeplaw06_PolynomialFactors.l0.eq_2 _ _ _ _ _ _ _ _) ?_
    simp only [if_pos (show (i : Int) < (p.length : Int) by omega), if_pos (show (0 : Int) ≤ (i : Int) by omega), IL_length, rd_IL hil, w64 (show -1000000000000000 ≤ (i : Int) + 1 by omega) (by omega)]
    have := ih (i + 1) (by omega)
    by_cases h : x ∈ p.take i
    · rw [decide_eq_true (show x ∈ p.take (i + 1) from by rw [List.take_succ_eq_append_getElem hil]; exact List.mem_append_left _ h)] at this
      simp only [decide_eq_true h, if_true]
      exact this
    · simp only [decide_eq_false h, if_neg ff]
      rw [show (I p[i] == I x) = decide (x ∈ p.take (i + 1)) from ?_]
      · exact this
      · rw [Bool.eq_iff_iff, beq_iff_eq, decide_eq_true_iff, I_inj, List.take_succ_eq_append_getElem hil, List.mem_append, List.mem_singleton]
        exact ⟨fun e => .inr e.symm, fun e => by
          rcases e with e | e
          · exact absurd e h
          · exact e.symm⟩
theorem sumM_snoc (p : List F) (a : F) : ∀ l : List F, sumM p (l ++ [a]) = sumM p l + multP p a
  | [] => by simp [sumM]
  | b :: l => by rw [List.cons_append, sumM, sumM_snoc p a l, sumM]; omega
theorem multP_le (p : List F) (x : F) (h0 : trim p ≠ []) : multP p x ≤ p.length := by
  have := sumM_le [x] (by simp) (nrm_trim p) h0
  rw [sumM, sumM, multP_trim] at this
  have := trim_len p
  omega
theorem sum_l1_ev (p : List F) (x : F) (rest rs : List F) (m : Int) (hp : p.length ≤ 1000) (h0 : trim p ≠ []) (hrs : rs.length ≤ 256) (R : Bool)
    (hend : Ev (fun k => kinkeeplaw06_PolynomialFactors.l1 k (IL p) (I x) (IL rest) 0 m 0 0 ((sumM p rs : Nat) : Int) (IL rs) (rs.length : Int) (rs.length : Int)) R) (d : Nat) : ∀ i, i + d = rs.length → sumM p (rs.take i) ≤ 1000 * i →
    Ev (fun k => kinkeeplaw06_PolynomialFactors.l1 k (IL p) (I x) (IL rest) 0 m 0 0 ((sumM p (rs.take i) : Nat) : Int) (IL rs) (rs.length : Int) (i : Int)) R := by
  induction d with
  | zero =>
    intro i hi _
    rw [show i = rs.length by omega, List.take_length]
    exact hend
  | succ d ih =>
    intro i hi hs
    have hil : i < rs.length := by omega
    have hmp := multP_le p rs[i] h0
    refine Ev.step (fun k => kinkeeplaw06_PolynomialFactors.l1.eq_2 _ _ _ _ _ _ _ _ _ _ _ _) ?_
    simp only [if_pos (show (i : Int) < (rs.length : Int) by omega), if_pos (show (0 : Int) ≤ (i : Int) by omega), IL_length, rd_IL hil, w64 (show -1000000000000000 ≤ (i : Int) + 1 by omega) (by omega)]
    refine Ev.bind (Multiplicity_ev p _ (by omega) h0) ?_
    have hw : wrap64 (((sumM p (rs.take i) : Nat) : Int) + ((multP p rs[i] : Nat) : Int)) = ((sumM p (rs.take (i + 1)) : Nat) : Int) := by
      rw [w64 (by omega) (by omega), List.take_succ_eq_append_getElem hil, sumM_snoc]
      omega
    simp only [hw]
    refine ih (i + 1) (by omega) ?_
    rw [List.take_succ_eq_append_getElem hil, sumM_snoc]
    omega
theorem PolynomialFactors : kinkeeplaw06_PolynomialFactors.Pure := by
  intro l0 a1 _ _ h0 h1
  obtain ⟨p, rfl⟩ := of_wfs h0
  obtain ⟨x, rfl⟩ := of_wf h1
  apply Ev.rounds
  unfold kinkeeplaw06_PolynomialFactors.f
  refine Ev.bind awake6_ev ?_
  simp only [if_true]
  refine Ev.bind (many_ev [IL p] (by simp)) ?_
  by_cases hm : ([IL p].any fun l => decide ((l.length : Int) > 30)) = true
  · simp only [if_pos hm]
    exact Ev.now _
  · simp only [if_neg hm]
    have hb : p.length ≤ 30 := by
      simp [IL_length] at hm
      omega
    obtain ⟨f1, f2, f3⟩ := frL_ok p [1#8] nrm_one (by simp)
    have f1' : trim (frL p [1#8]) = frL p [1#8] := f1
    rw [List.length_singleton] at f2
    refine Ev.bind (FromRoots_ev p (by omega)) ?_
    simp only [if_true]
    refine Ev.bind (Degree_ev _ (by omega)) ?_
    rw [f1']
    rw [show (((frL p [1#8]).length : Int) - 1 != ((IL p).length : Int)) = false from bne_eq_false_iff_eq.2 (by rw [IL_length]; omega)]
    refine Ev.step (fun k => kinkeeplaw06_PolynomialFactors.j0.eq_2 _ _ _ _ _) ?_
    simp only [if_neg ff, IL_length]
    have hst := among_l0_ev p (frL p [1#8]) x (by omega) true ?_ p.length 0 (by omega)
    · rw [List.take_zero, decide_eq_false (show ¬ x ∈ ([] : List F) by simp)] at hst
      exact hst
    refine Ev.step (fun k => kinkeeplaw06_PolynomialFactors.l0.eq_2 _ _ _ _ _ _ _ _) ?_
    simp only [if_neg (show ¬ ((p.length : Int) < (p.length : Int)) by omega)]
    refine Ev.bind (Eval_ev _ x (by omega)) ?_
    have hroot : (I (ev (frL p [1#8]) x) == 0) = decide (x ∈ p) := by
      rw [Bool.eq_iff_iff, beq_iff_eq, I_eq_zero, f3, ev_const, decide_eq_true_iff]
      simp
    simp only [hroot, bne_self_eq_false, if_neg ff]
    refine Ev.bind (Degree_ev p (by omega)) ?_
    by_cases hz : trim p = []
    · simp only [hz, List.length_nil, if_pos neg1]
      exact Ev.now _
    · have hl := List.length_pos_iff.2 hz
      have htl := trim_len p
      simp only [if_neg (show ¬ (((trim p).length : Int) - 1 < 0) by omega), root_IL]
      have hrt : trim [x, 1#8] = [x, 1#8] := nrm_root x
      have hD := DivMod_ev p [x, 1#8] (by rw [hrt]; simp) (by omega) (by simp)
      rw [hrt] at hD
      have hrl := rootsGo_len p 256 0
      refine Ev.bind hD (Ev.bind (Multiplicity_ev p x (by omega) hz) (Ev.bind (Roots_ev p (by omega) hz) ?_))
      simp only [IL_length]
      refine sum_l1_ev p x (divP p [x, 1#8]).2 (rootsP p) _ (by omega) hz hrl true ?_ (rootsP p).length 0 (by omega) (by simp [sumM])
      refine Ev.step (fun k => kinkeeplaw06_PolynomialFactors.l1.eq_2 _ _ _ _ _ _ _ _ _ _ _ _) ?_
      simp only [if_neg (show ¬ (((rootsP p).length : Int) < ((rootsP p).length : Int)) by omega), if_true, IL_length]
      refine Ev.bind (Eval_ev p x (by omega)) ?_
      have e1 : ((((divP p [x, 1#8]).2.length : Int) == 0)) = (I (ev p x) == 0) := by
        rw [Bool.eq_iff_iff, beq_iff_eq, beq_iff_eq, I_eq_zero, ← root_iff]
        exact ⟨fun e => List.eq_nil_of_length_eq_zero (by omega), fun e => by rw [e]; rfl⟩
      have e2 : (decide (((multP p x : Nat) : Int) > 0)) = (I (ev p x) == 0) := by
        have := multP_pos (x := x) (nrm_trim p) hz
        rw [multP_trim, ev_trim] at this
        rw [Bool.eq_iff_iff, decide_eq_true_iff, beq_iff_eq, I_eq_zero, ← this]
        omega
      have hs := sumM_le (rootsP p) (rootsGo_nodup p 256 0 (by omega)) (nrm_trim p) hz
      rw [sumM_congr (q := p) (rootsP p) (fun s _ => multP_trim p s)] at hs
      simp only [e1, e2, beq_self_eq_true, if_true]
      refine Ev.bind (Degree_ev p (by omega)) ?_
      rw [decide_eq_true (show ((sumM p (rootsP p) : Nat) : Int) ≤ ((trim p).length : Int) - 1 by omega)]
      exact Ev.now _
end Go.Proofs.Ytjoiiclahcghbaa.Pure
