/- Polynomials are a ring, and the value at an element respects sums and products. No condition (up to 30 coefficients are examined). -/
import Derived.Test.YtjoiiclahcghbaaPGx30
import Derived.Test.YtjoiiclahcghbaaPa
namespace Go.Proofs.Ytjoiiclahcghbaa.Pure
open Go.RowKit Go.Proofs.Ytjoiiclahcghbaa.PG Go.Proofs.YtjoiiclahcghbaaW.PrintWords Go.Proofs.YtjoiiclahcghbaaW.PrintLast Go.Proofs.Ytjoiiclahcghbaa.Gf
theorem mulP_len_le (p q : List F) : (mulP p q).length ≤ p.length + q.length := by
  have := trim_len_le (p := mulP p q) (n := p.length + q.length) (by
    rw [co_mulP]
    exact (Bel.cv' (co_bel p) (co_bel q)).mono (by omega))
  rwa [nrm_mulP] at this
theorem addP_len_le (p q : List F) : (addP p q).length ≤ max p.length q.length := by
  have := trim_len (addL p q)
  rwa [addL_length] at this
theorem PolynomialRing : kinkeeplaw06_PolynomialRing.Pure := by
  intro l0 l1 l2 a3 _ _ h0 _ _ h1 _ _ h2 h3
  obtain ⟨p, rfl⟩ := of_wfs h0
  obtain ⟨q, rfl⟩ := of_wfs h1
  obtain ⟨r, rfl⟩ := of_wfs h2
  obtain ⟨x, rfl⟩ := of_wf h3
  apply Ev.rounds
  unfold kinkeeplaw06_PolynomialRing.f
  refine Ev.bind awake6_ev ?_
  simp only [if_true]
  refine Ev.bind (many_ev [IL p, IL q, IL r] (by simp)) ?_
  by_cases hm : ([IL p, IL q, IL r].any fun l => decide ((l.length : Int) > 30)) = true
  · simp only [if_pos hm]
    exact Ev.now _
  · simp only [if_neg hm]
    have hb : p.length ≤ 30 ∧ q.length ≤ 30 ∧ r.length ≤ 30 := by
      simp [IL_length] at hm
      omega
    have e1 := mulP_len_le q r
    have e2 := mulP_len_le p q
    have e3 := mulP_len_le p r
    have e4 := addP_len_le q r
    have e5 := addP_len_le p q
    have m1 : mulP p (mulP q r) = mulP (mulP p q) r := (nrm_mulP _ _).ext (nrm_mulP _ _) (by rw [co_mulP, co_mulP, co_mulP, co_mulP, cv_assoc])
    have m2 : mulP p q = mulP q p := (nrm_mulP _ _).ext (nrm_mulP _ _) (by rw [co_mulP, co_mulP, cv_comm])
    have m3 : mulP p (addP q r) = addP (mulP p q) (mulP p r) := (nrm_mulP _ _).ext (nrm_addP _ _) (by rw [co_mulP, co_addP, co_addP, co_mulP, co_mulP, cv_ad_right])
    have m4 : addP p p = [] := (nrm_addP _ _).ext nrm_nil (by rw [co_addP, ad_self, co_nil])
    have m5 : mulP p [1#8] = trim p := (nrm_mulP _ _).ext (nrm_trim p) (by rw [co_mulP, co_trim, co_one, cv_on])
    refine Ev.bind (mul6_ev q r (by omega) (by omega)) (Ev.bind (mul6_ev p _ (by omega) (by omega)) (Ev.bind (mul6_ev p q (by omega) (by omega)) (Ev.bind (mul6_ev _ r (by omega) (by omega)) ?_)))
    simp only [m1, same_I, Option.bind_some, if_true]
    refine Ev.bind (mul6_ev p q (by omega) (by omega)) (Ev.bind (mul6_ev q p (by omega) (by omega)) ?_)
    simp only [← m2, same_I, Option.bind_some, if_true]
    refine Ev.bind (Add_ev q r (by omega) (by omega)) (Ev.bind (mul6_ev p _ (by omega) (by omega)) (Ev.bind (mul6_ev p q (by omega) (by omega)) (Ev.bind (mul6_ev p r (by omega) (by omega)) (Ev.bind (Add_ev _ _ (by omega) (by omega)) ?_))))
    simp only [m3, same_I, Option.bind_some, Bool.not_true]
    refine Ev.step (fun k => kinkeeplaw06_PolynomialRing.j0.eq_2 _ _ _ _ _) ?_
    simp only [if_neg (show ¬ (false = true) by decide)]
    refine Ev.bind (Eval_ev p x (by omega)) (Ev.bind (Eval_ev q x (by omega)) (Ev.bind (Add_ev p q (by omega) (by omega)) (Ev.bind (Eval_ev _ x (by omega)) ?_)))
    simp only [Add_I, Option.bind_some, ev_addP, if_true]
    refine Ev.bind (mul6_ev p q (by omega) (by omega)) (Ev.bind (Eval_ev _ x (by omega)) (Ev.bind (Mul_ev _ _) ?_))
    simp only [ev_mulP, if_true]
    refine Ev.bind (Add_ev p p (by omega) (by omega)) ?_
    simp only [m4, IL_length, List.length_nil, Int.natCast_zero, if_true]
    refine Ev.bind (mul6_ev p [1#8] (by omega) (by simp)) (Ev.bind (Trim_ev p (by omega)) ?_)
    simp only [m5, same_I, Option.bind_some]
    exact Ev.now _
end Go.Proofs.Ytjoiiclahcghbaa.Pure
