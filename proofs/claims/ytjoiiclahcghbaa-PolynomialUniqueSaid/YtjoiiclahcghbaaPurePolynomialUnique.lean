/- A polynomial is determined by its values at more elements than its degree. No condition (up to 30 points are examined). -/
import Derived.Test.YtjoiiclahcghbaaPGx32
import Derived.Test.YtjoiiclahcghbaaPb
namespace Go.Proofs.Ytjoiiclahcghbaa.Pure
open Go.RowKit Go.Proofs.Ytjoiiclahcghbaa.PG Go.Proofs.YtjoiiclahcghbaaW.PrintWords Go.Proofs.YtjoiiclahcghbaaW.PrintLast Go.Proofs.Ytjoiiclahcghbaa.Gf
theorem values_l0_ev (p xs ys : List F) (hp : p.length ≤ 1000) (hx : xs.length ≤ 1000) (R : Bool)
    (hend : Ev (fun k => kinkeeplaw06_PolynomialUnique.l0 k (IL p) (IL xs) (IL ys) (IL (xs.map (ev p))) (IL xs) (xs.length : Int) (xs.length : Int)) R) (d : Nat) : ∀ i, i + d = xs.length →
    Ev (fun k => kinkeeplaw06_PolynomialUnique.l0 k (IL p) (IL xs) (IL ys) (IL ((xs.take i).map (ev p))) (IL xs) (xs.length : Int) (i : Int)) R := by
  induction d with
  | zero =>
    intro i hi
    rw [show i = xs.length by omega, List.take_length]
    exact hend
  | succ d ih =>
    intro i hi
    have hil : i < xs.length := by omega
    refine Ev.step (fun k => kinkeeplaw06_PolynomialUnique.l0.eq_2 _ _ _ _ _ _ _ _) ?_
    simp only [if_pos (show (i : Int) < (xs.length : Int) by omega), if_pos (show (0 : Int) ≤ (i : Int) by omega), IL_length, rd_IL hil, w64 (show -1000000000000000 ≤ (i : Int) + 1 by omega) (by omega)]
    refine Ev.bind (Eval_ev p _ (by omega)) ?_
    simp only [List.length_map, List.length_take, if_pos (show min i xs.length < 140737488355328 by omega), IL_snoc]
    have := ih (i + 1) (by omega)
    rw [List.take_succ_eq_append_getElem hil, List.map_append, List.map_singleton] at this
    exact this
theorem check_l1_ev (r xs ys : List F) (hr : r.length ≤ 1000) (hx : xs.length ≤ 1000) (hl : xs.length = ys.length) (hv : ∀ (i : Nat) (h : i < xs.length), ev r xs[i] = co ys i) (R : Bool)
    (hend : Ev (fun k => kinkeeplaw06_PolynomialUnique.l1 k (IL xs) (IL ys) (IL r) 0 (IL xs) (xs.length : Int) (xs.length : Int)) R) (d : Nat) : ∀ i, i + d = xs.length →
    Ev (fun k => kinkeeplaw06_PolynomialUnique.l1 k (IL xs) (IL ys) (IL r) 0 (IL xs) (xs.length : Int) (i : Int)) R := by
  induction d with
  | zero =>
    intro i hi
    rw [show i = xs.length by omega]
    exact hend
  | succ d ih =>
    intro i hi
    have hil : i < xs.length := by omega
    refine Ev.step (fun k => kinkeeplaw06_PolynomialUnique.l1.eq_2 _ _ _ _ _ _ _ _) ?_
    simp only [if_pos (show (i : Int) < (xs.length : Int) by omega), if_pos (show (0 : Int) ≤ (i : Int) by omega), IL_length, rd_IL hil, w64 (show -1000000000000000 ≤ (i : Int) + 1 by omega) (by omega)]
    refine Ev.bind (Eval_ev r _ (by omega)) ?_
    simp only [if_pos (show (i : Int) < (ys.length : Int) by omega), rd_co, hv i hil, if_true]
    exact ih (i + 1) (by omega)
theorem PolynomialUnique : kinkeeplaw06_PolynomialUnique.Pure := by
  intro l0 l1 l2 _ _ h0 _ _ h1 _ hyl h2
  obtain ⟨p, rfl⟩ := of_wfs h0
  obtain ⟨xs, rfl⟩ := of_wfs h1
  obtain ⟨ys, rfl⟩ := of_wfs h2
  apply Ev.rounds
  unfold kinkeeplaw06_PolynomialUnique.f
  refine Ev.bind awake6_ev ?_
  simp only [if_true]
  have htrue : Ev (fun k => kinkeeplaw06_PolynomialUnique.j0 k (IL p) (IL xs) (IL ys) true) true := by
    refine Ev.step (fun k => kinkeeplaw06_PolynomialUnique.j0.eq_2 _ _ _ _ _) ?_
    simp only [if_true]
    exact Ev.now _
  refine Ev.bind (many_ev [IL p, IL xs] (by simp)) ?_
  by_cases hm : ([IL p, IL xs].any fun l => decide ((l.length : Int) > 30)) = true
  · simp only [if_pos hm]
    exact htrue
  · simp only [if_neg hm]
    have hb : p.length ≤ 30 ∧ xs.length ≤ 30 := by
      simp [IL_length] at hm
      omega
    simp only [distinct_I xs (show xs.length ≤ 140737488355328 by omega), Option.bind_some]
    by_cases hn : xs.Nodup
    · simp only [decide_eq_true hn, Bool.not_true]
      refine Ev.step (fun k => kinkeeplaw06_PolynomialUnique.j0.eq_2 _ _ _ _ _) ?_
      simp only [if_neg ff, IL_length]
      refine values_l0_ev p xs ys (by omega) (by omega) true ?_ xs.length 0 (by omega)
      refine Ev.step (fun k => kinkeeplaw06_PolynomialUnique.l0.eq_2 _ _ _ _ _ _ _ _) ?_
      simp only [if_neg (show ¬ ((xs.length : Int) < (xs.length : Int)) by omega), IL_length]
      have hlm : xs.length = (xs.map (ev p)).length := by rw [List.length_map]
      have hlen := itP_len hlm hn
      obtain ⟨i1, i2, i3⟩ := itP_ok hlm hn
      have i1' : trim (itP xs (xs.map (ev p))) = itP xs (xs.map (ev p)) := i1
      refine Ev.bind (Interpolate_ev hlm hn (by omega)) ?_
      simp only [if_true]
      refine Ev.bind (Degree_ev _ (by omega)) ?_
      rw [i1']
      simp only [if_neg (show ¬ (((itP xs (xs.map (ev p))).length : Int) - 1 ≥ (xs.length : Int)) by omega)]
      refine Ev.bind (Degree_ev p (by omega)) ?_
      have hj2 : Ev (fun k => kinkeeplaw06_PolynomialUnique.j2 k (IL xs) (IL ys) false) true := by
        refine Ev.step (fun k => kinkeeplaw06_PolynomialUnique.j2.eq_2 _ _ _ _) ?_
        simp only [if_neg ff, IL_length]
        by_cases hl : ys.length = xs.length
        · simp only [if_pos (show (ys.length : Int) = (xs.length : Int) by omega)]
          have hlen2 := itP_len hl.symm hn
          obtain ⟨k1, _, k3⟩ := itP_ok hl.symm hn
          have k1' : trim (itP xs ys) = itP xs ys := k1
          refine Ev.bind (Interpolate_ev hl.symm hn (by omega)) ?_
          refine check_l1_ev (itP xs ys) xs ys (by omega) (by omega) hl.symm k3 true ?_ xs.length 0 (by omega)
          refine Ev.step (fun k => kinkeeplaw06_PolynomialUnique.l1.eq_2 _ _ _ _ _ _ _ _) ?_
          simp only [if_neg (show ¬ ((xs.length : Int) < (xs.length : Int)) by omega), if_true, IL_length]
          refine Ev.bind (Degree_ev _ (by omega)) ?_
          rw [k1', decide_eq_true (show (((itP xs ys).length : Int) - 1 < (xs.length : Int)) by omega)]
          exact Ev.now _
        · simp only [if_neg (show ¬ (ys.length : Int) = (xs.length : Int) by omega)]
          exact Ev.now _
      by_cases hd : ((trim p).length : Int) - 1 < (xs.length : Int)
      · simp only [if_pos hd]
        refine Ev.bind (Trim_ev p (by omega)) ?_
        have he : itP xs (xs.map (ev p)) = trim p := itP_eq hlm hn (nrm_trim p) ((co_bel _).mono (by omega)) (fun i hi => by
          rw [ev_trim, co_at (by rw [List.length_map]; exact hi), List.getElem_map])
        simp only [he, same_I, Option.bind_some, Bool.not_true]
        exact hj2
      · simp only [if_neg hd]
        exact hj2
    · simp only [decide_eq_false hn, Bool.not_false]
      exact htrue
end Go.Proofs.Ytjoiiclahcghbaa.Pure
