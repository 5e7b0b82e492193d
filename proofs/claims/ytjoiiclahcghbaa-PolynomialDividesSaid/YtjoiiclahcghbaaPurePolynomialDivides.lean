/- Division with remainder: p is the quotient times q, plus a remainder of a lower degree. No condition (up to 30 coefficients are examined). -/
import Derived.Test.YtjoiiclahcghbaaPGx31
import Derived.Test.YtjoiiclahcghbaaPa
namespace Go.Proofs.Ytjoiiclahcghbaa.Pure
open Go.RowKit Go.Proofs.Ytjoiiclahcghbaa.PG Go.Proofs.YtjoiiclahcghbaaW.PrintWords Go.Proofs.YtjoiiclahcghbaaW.PrintLast Go.Proofs.Ytjoiiclahcghbaa.Gf
theorem PolynomialDivides : kinkeeplaw06_PolynomialDivides.Pure := by
  intro l0 l1 _ _ h0 _ _ h1
  obtain ⟨p, rfl⟩ := of_wfs h0
  obtain ⟨q, rfl⟩ := of_wfs h1
  apply Ev.rounds
  unfold kinkeeplaw06_PolynomialDivides.f
  refine Ev.bind awake6_ev ?_
  simp only [if_true]
  refine Ev.bind (many_ev [IL p, IL q] (by simp)) ?_
  have htrue : Ev (fun k => kinkeeplaw06_PolynomialDivides.j0 k (IL p) (IL q) true) true := by
    refine Ev.step (fun k => kinkeeplaw06_PolynomialDivides.j0.eq_2 _ _ _ _) ?_
    simp only [if_true]
    exact Ev.now _
  by_cases hm : ([IL p, IL q].any fun l => decide ((l.length : Int) > 30)) = true
  · simp only [if_pos hm]
    exact htrue
  · simp only [if_neg hm]
    have hb : p.length ≤ 30 ∧ q.length ≤ 30 := by
      simp [IL_length] at hm
      omega
    refine Ev.bind (Degree_ev q (by omega)) ?_
    by_cases hz : trim q = []
    · simp only [hz, List.length_nil, decide_eq_true (show (((0 : Nat) : Int) - 1 < 0) by decide)]
      exact htrue
    · have hl : 0 < (trim q).length := List.length_pos_iff.2 hz
      simp only [decide_eq_false (show ¬ (((trim q).length : Int) - 1 < 0) by omega)]
      refine Ev.step (fun k => kinkeeplaw06_PolynomialDivides.j0.eq_2 _ _ _ _) ?_
      simp only [if_neg (show ¬ (false = true) by decide)]
      refine Ev.bind (DivMod_ev p q hz (by omega) (by omega)) ?_
      obtain ⟨hI, hd, hr, hdl⟩ := divP_ok p (nrm_trim q) hz
      have hrl := divP_len p (nrm_trim q) hz
      have htp := trim_len p
      have htq := trim_len q
      have hml : (mulP (divP p (trim q)).1 q).length ≤ 60 := by
        have := trim_len_le (p := mulP (divP p (trim q)).1 q) (n := 60) (by
          rw [co_mulP]
          exact (Bel.cv' (co_bel _) (co_bel q)).mono (by omega))
        rwa [nrm_mulP] at this
      simp only [if_true]
      refine Ev.bind (mul6_ev _ _ (by omega) (by omega)) (Ev.bind (Add_ev _ _ (by omega) (by omega)) (Ev.bind (Trim_ev p (by omega)) ?_))
      have he : addP (mulP (divP p (trim q)).1 q) (divP p (trim q)).2 = trim p := (nrm_addP _ _).ext (nrm_trim p) (by rw [co_addP, co_mulP, co_trim, hI.eq, co_trim])
      simp only [he, same_I, Option.bind_some, if_true]
      refine Ev.bind (Degree_ev _ (by omega)) (Ev.bind (Degree_ev q (by omega)) ?_)
      rw [hr]
      rw [decide_eq_true (show (((divP p (trim q)).2.length : Int) - 1 < ((trim q).length : Int) - 1) by omega)]
      exact Ev.now _
end Go.Proofs.Ytjoiiclahcghbaa.Pure
