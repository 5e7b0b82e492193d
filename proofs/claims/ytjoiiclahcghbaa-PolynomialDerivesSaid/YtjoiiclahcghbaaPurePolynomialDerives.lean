/- The product rule; a root is one of the derivative exactly if it is a multiple one. No condition (up to 30 coefficients are examined). -/
import Derived.Test.YtjoiiclahcghbaaPGx35
import Derived.Test.YtjoiiclahcghbaaPb
namespace Go.Proofs.Ytjoiiclahcghbaa.Pure
open Go.RowKit Go.Proofs.Ytjoiiclahcghbaa.PG Go.Proofs.YtjoiiclahcghbaaW.PrintWords Go.Proofs.YtjoiiclahcghbaaW.PrintLast Go.Proofs.Ytjoiiclahcghbaa.Gf
theorem der_mul (p q : List F) : derP (mulP p q) = addP (mulP (derP p) q) (mulP p (derP q)) :=
  (nrm_derP _).ext (nrm_addP _ _) (by rw [co_derP, co_mulP, dr_cv, co_addP, co_mulP, co_mulP, co_derP, co_derP])
theorem der_add (p q : List F) : derP (addP p q) = addP (derP p) (derP q) :=
  (nrm_derP _).ext (nrm_addP _ _) (by rw [co_derP, co_addP, dr_ad, co_addP, co_derP, co_derP])
theorem PolynomialDerives : kinkeeplaw06_PolynomialDerives.Pure := by
  intro l0 l1 a2 _ _ h0 _ _ h1 h2
  obtain ⟨p, rfl⟩ := of_wfs h0
  obtain ⟨q, rfl⟩ := of_wfs h1
  obtain ⟨x, rfl⟩ := of_wf h2
  apply Ev.rounds
  unfold kinkeeplaw06_PolynomialDerives.f
  refine Ev.bind awake6_ev ?_
  simp only [if_true]
  refine Ev.bind (many_ev [IL p, IL q] (by simp)) ?_
  by_cases hm : ([IL p, IL q].any fun l => decide ((l.length : Int) > 30)) = true
  · simp only [if_pos hm]
    exact Ev.now _
  · simp only [if_neg hm]
    have hb : p.length ≤ 30 ∧ q.length ≤ 30 := by
      simp [IL_length] at hm
      omega
    have e1 := derP_le p
    have e2 := derP_le q
    have e3 := mulP_le p q
    have e4 := mulP_le (derP p) q
    have e5 := mulP_le p (derP q)
    have e6 := addP_le p q
    refine Ev.bind (Derivative_ev p (by omega)) (Ev.bind (Derivative_ev q (by omega)) (Ev.bind (mul6_ev p q (by omega) (by omega)) (Ev.bind (Derivative_ev _ (by omega)) (Ev.bind (mul6_ev _ q (by omega) (by omega)) (Ev.bind (mul6_ev p _ (by omega) (by omega)) (Ev.bind (Add_ev _ _ (by omega) (by omega)) ?_))))))
    simp only [der_mul, same_I, Option.bind_some, if_true]
    refine Ev.bind (Add_ev p q (by omega) (by omega)) (Ev.bind (Derivative_ev _ (by omega)) (Ev.bind (Add_ev _ _ (by omega) (by omega)) ?_))
    simp only [der_add, same_I, Option.bind_some, Bool.not_true]
    refine Ev.step (fun k => kinkeeplaw06_PolynomialDerives.j0.eq_2 _ _ _ _ _) ?_
    simp only [if_neg ff]
    have htrue : Ev (fun k => kinkeeplaw06_PolynomialDerives.j1 k (IL p) (I x) (IL (derP p)) true) true := by
      refine Ev.step (fun k => kinkeeplaw06_PolynomialDerives.j1.eq_2 _ _ _ _ _) ?_
      simp only [if_true]
      exact Ev.now _
    refine Ev.bind (Degree_ev p (by omega)) ?_
    by_cases hz : trim p = []
    · simp only [hz, List.length_nil, if_pos neg1]
      exact htrue
    · have hl := List.length_pos_iff.2 hz
      simp only [if_neg (show ¬ (((trim p).length : Int) - 1 < 0) by omega)]
      refine Ev.bind (Eval_ev p x (by omega)) ?_
      by_cases hx : ev p x = 0#8
      · simp only [hx, I_zero, bne_self_eq_false]
        refine Ev.step (fun k => kinkeeplaw06_PolynomialDerives.j1.eq_2 _ _ _ _ _) ?_
        simp only [if_neg ff]
        refine Ev.bind (Multiplicity_ev p x (by omega) hz) ?_
        simp only [if_true]
        refine Ev.bind (Eval_ev _ x (by omega)) ?_
        have hd := der_root (nrm_trim p) hz (by rw [ev_trim]; exact hx)
        rw [derP_trim, multP_trim] at hd
        have : ((I (ev (derP p) x) == 0) == decide (((multP p x : Nat) : Int) > 1)) = true := by
          rw [beq_iff_eq, Bool.eq_iff_iff, beq_iff_eq, I_eq_zero, hd, decide_eq_true_iff]
          omega
        rw [this]
        exact Ev.now _
      · rw [show (I (ev p x) != 0) = true from bne_iff_ne.2 (fun e => hx (I_eq_zero.1 e))]
        exact htrue
end Go.Proofs.Ytjoiiclahcghbaa.Pure
