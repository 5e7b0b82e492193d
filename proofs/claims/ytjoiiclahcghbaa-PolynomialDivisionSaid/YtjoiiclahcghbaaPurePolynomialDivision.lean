/- DivMod and GCD return what the reference returns, or the error. No condition (up to 40 coefficients are examined). -/
import Derived.Test.YtjoiiclahcghbaaPGx33
import Derived.Test.YtjoiiclahcghbaaPa
import Derived.Test.YtjoiiclahcghbaaPrg
namespace Go.Proofs.Ytjoiiclahcghbaa.Pure
open Go.RowKit Go.Proofs.Ytjoiiclahcghbaa.PG Go.Proofs.YtjoiiclahcghbaaW.PrintWords Go.Proofs.YtjoiiclahcghbaaW.PrintLast Go.Proofs.Ytjoiiclahcghbaa.Gf
theorem PolynomialDivision : kinkeeplaw06_PolynomialDivision.Pure := by
  intro l0 l1 _ _ h0 _ _ h1
  obtain ⟨p, rfl⟩ := of_wfs h0
  obtain ⟨q, rfl⟩ := of_wfs h1
  apply Ev.rounds
  unfold kinkeeplaw06_PolynomialDivision.f
  refine Ev.bind awake6_ev ?_
  simp only [if_true, IL_length]
  have htrue : Ev (fun k => kinkeeplaw06_PolynomialDivision.j0 k (IL p) (IL q) true) true := by
    refine Ev.step (fun k => kinkeeplaw06_PolynomialDivision.j0.eq_2 _ _ _ _) ?_
    simp only [if_true]
    exact Ev.now _
  by_cases hp : (p.length : Int) > 40
  · simp only [if_pos hp]
    exact htrue
  · simp only [if_neg hp]
    by_cases hq : (q.length : Int) > 40
    · simp only [decide_eq_true hq]
      exact htrue
    · simp only [decide_eq_false hq]
      refine Ev.step (fun k => kinkeeplaw06_PolynomialDivision.j0.eq_2 _ _ _ _) ?_
      simp only [if_neg (show ¬ (false = true) by decide)]
      by_cases hz : trim q = []
      · refine Ev.bind (DivMod0_ev p q hz (by omega)) (Ev.bind (GCD_ev p q (by omega) (by omega)) (Ev.bind (rGCD_ev p q (by omega) (by omega)) ?_))
        simp only [same_I, Option.bind_some, if_true]
        refine Ev.bind (rDegree_ev q (by omega)) ?_
        simp only [hz, List.length_nil, if_true, Int.natCast_zero, beq_self_eq_true]
        exact Ev.now _
      · have hl : 0 < (trim q).length := List.length_pos_iff.2 hz
        refine Ev.bind (DivMod_ev p q hz (by omega) (by omega)) (Ev.bind (GCD_ev p q (by omega) (by omega)) (Ev.bind (rGCD_ev p q (by omega) (by omega)) ?_))
        simp only [same_I, Option.bind_some, if_true]
        refine Ev.bind (rDegree_ev q (by omega)) ?_
        simp only [if_neg (show ¬ (((trim q).length : Int) - 1 < 0) by omega)]
        refine Ev.bind (rDivMod_ev p q hz (by omega) (by omega)) ?_
        simp only [same_I, Option.bind_some, if_true]
        exact Ev.now _
end Go.Proofs.Ytjoiiclahcghbaa.Pure
