/- Eval, Derivative, FromRoots, Roots and Multiplicity return what the reference returns, or errors. No condition. -/
import Derived.Test.YtjoiiclahcghbaaPGx37
import Derived.Test.YtjoiiclahcghbaaPb
import Derived.Test.YtjoiiclahcghbaaPrv
namespace Go.Proofs.Ytjoiiclahcghbaa.Pure
open Go.RowKit Go.Proofs.Ytjoiiclahcghbaa.PG Go.Proofs.YtjoiiclahcghbaaW.PrintWords Go.Proofs.YtjoiiclahcghbaaW.PrintLast Go.Proofs.Ytjoiiclahcghbaa.Gf
theorem PolynomialValues : kinkeeplaw06_PolynomialValues.Pure := by
  intro l0 a1 _ _ h0 h1
  obtain ⟨p, rfl⟩ := of_wfs h0
  obtain ⟨x, rfl⟩ := of_wf h1
  apply Ev.rounds
  unfold kinkeeplaw06_PolynomialValues.f
  refine Ev.bind awake6_ev ?_
  simp only [if_true, IL_length]
  by_cases hbig : (p.length : Int) > 1023
  · simp only [if_pos hbig]
    refine Ev.bind (FromRoots_big p (by omega)) ?_
    simp only [if_true, List.length_nil, Int.natCast_zero, beq_self_eq_true]
    exact Ev.now _
  · simp only [if_neg hbig]
    by_cases h40 : (p.length : Int) > 40
    · simp only [if_pos h40]
      exact Ev.now _
    · simp only [if_neg h40]
      refine Ev.bind (FromRoots_ev p (by omega)) ?_
      by_cases hz : trim p = []
      · refine Ev.bind (Roots0_ev p (by omega) hz) (Ev.bind (Multiplicity0_ev p x (by omega) hz) (Ev.bind (Eval_ev p x (by omega)) (Ev.bind (rEval_ev p x (by omega)) ?_)))
        simp only [if_true]
        refine Ev.bind (Derivative_ev p (by omega)) (Ev.bind (rDerivative_ev p (by omega)) ?_)
        simp only [same_I, Option.bind_some, if_true]
        refine Ev.bind (rFromRoots_ev p (by omega)) ?_
        simp only [same_I, Option.bind_some, Bool.not_true]
        refine Ev.step (fun k => kinkeeplaw06_PolynomialValues.j0.eq_2 _ _ _ _ _ _ _ _) ?_
        simp only [if_neg ff]
        refine Ev.bind (rDegree_ev p (by omega)) ?_
        simp only [hz, List.length_nil, if_true, Int.natCast_zero, beq_self_eq_true]
        exact Ev.now _
      · have hl := List.length_pos_iff.2 hz
        refine Ev.bind (Roots_ev p (by omega) hz) (Ev.bind (Multiplicity_ev p x (by omega) hz) (Ev.bind (Eval_ev p x (by omega)) (Ev.bind (rEval_ev p x (by omega)) ?_)))
        simp only [if_true]
        refine Ev.bind (Derivative_ev p (by omega)) (Ev.bind (rDerivative_ev p (by omega)) ?_)
        simp only [same_I, Option.bind_some, if_true]
        refine Ev.bind (rFromRoots_ev p (by omega)) ?_
        simp only [same_I, Option.bind_some, Bool.not_true]
        refine Ev.step (fun k => kinkeeplaw06_PolynomialValues.j0.eq_2 _ _ _ _ _ _ _ _) ?_
        simp only [if_neg ff]
        refine Ev.bind (rDegree_ev p (by omega)) ?_
        simp only [if_neg (show ¬ (((trim p).length : Int) - 1 < 0) by omega), if_true]
        refine Ev.bind (rRoots_ev p (by omega)) ?_
        simp only [same_I, Option.bind_some, if_true]
        refine Ev.bind (rMultiplicity_ev p x (by omega) hz) ?_
        simp only [beq_self_eq_true]
        exact Ev.now _
end Go.Proofs.Ytjoiiclahcghbaa.Pure
