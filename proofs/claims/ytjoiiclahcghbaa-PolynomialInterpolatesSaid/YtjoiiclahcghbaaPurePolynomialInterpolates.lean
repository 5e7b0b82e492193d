/- Interpolate returns what Lagrange's formula returns, or the error. No condition (up to 20 points are examined). -/
import Derived.Test.YtjoiiclahcghbaaPGx29
import Derived.Test.YtjoiiclahcghbaaPa
import Derived.Test.YtjoiiclahcghbaaPri
namespace Go.Proofs.Ytjoiiclahcghbaa.Pure
open Go.RowKit Go.Proofs.Ytjoiiclahcghbaa.PG Go.Proofs.YtjoiiclahcghbaaW.PrintWords Go.Proofs.YtjoiiclahcghbaaW.PrintLast Go.Proofs.Ytjoiiclahcghbaa.Gf
theorem PolynomialInterpolates : kinkeeplaw06_PolynomialInterpolates.Pure := by
  intro l0 l1 _ _ h0 _ _ h1
  obtain ⟨p, rfl⟩ := of_wfs h0
  obtain ⟨q, rfl⟩ := of_wfs h1
  apply Ev.rounds
  unfold kinkeeplaw06_PolynomialInterpolates.f
  refine Ev.bind awake6_ev ?_
  simp only [if_true, IL_length]
  have htrue : Ev (fun k => kinkeeplaw06_PolynomialInterpolates.j0 k (IL p) (IL q) true) true := by
    refine Ev.step (fun k => kinkeeplaw06_PolynomialInterpolates.j0.eq_2 _ _ _ _) ?_
    simp only [if_true]
    exact Ev.now _
  by_cases hp : (p.length : Int) > 20
  · simp only [if_pos hp]
    exact htrue
  · simp only [if_neg hp]
    by_cases hq : (q.length : Int) > 20
    · simp only [decide_eq_true hq]
      exact htrue
    · simp only [decide_eq_false hq]
      refine Ev.step (fun k => kinkeeplaw06_PolynomialInterpolates.j0.eq_2 _ _ _ _) ?_
      simp only [if_neg (show ¬ (false = true) by decide), IL_length]
      have herr : Ev (fun k => kinkeeplaw06_PolynomialInterpolates.j1 k (IL p) (IL q) [] 1 true) true := by
        refine Ev.step (fun k => kinkeeplaw06_PolynomialInterpolates.j1.eq_2 _ _ _ _ _ _) ?_
        simp only [if_true, List.length_nil, Int.natCast_zero, beq_self_eq_true]
        exact Ev.now _
      by_cases hl : p.length = q.length
      · by_cases hn : p.Nodup
        · refine Ev.bind (Interpolate_ev hl hn (by omega)) ?_
          simp only [if_pos (show (p.length : Int) = (q.length : Int) by omega)]
          refine Ev.bind (rDistinct_ev p (by omega)) ?_
          simp only [decide_eq_true hn, Bool.not_true]
          refine Ev.step (fun k => kinkeeplaw06_PolynomialInterpolates.j1.eq_2 _ _ _ _ _ _) ?_
          simp only [if_neg (show ¬ (false = true) by decide), if_true]
          refine Ev.bind (rInterpolate_ev hl hn (by omega)) ?_
          simp only [same_I, Option.bind_some]
          exact Ev.now _
        · refine Ev.bind (Interpolate_ne (fun e => hn e.2) (by omega)) ?_
          simp only [if_pos (show (p.length : Int) = (q.length : Int) by omega)]
          refine Ev.bind (rDistinct_ev p (by omega)) ?_
          simp only [decide_eq_false hn, Bool.not_false]
          exact herr
      · refine Ev.bind (Interpolate_ne (fun e => hl e.1) (by omega)) ?_
        simp only [if_neg (show ¬ (p.length : Int) = (q.length : Int) by omega)]
        exact herr
end Go.Proofs.Ytjoiiclahcghbaa.Pure
