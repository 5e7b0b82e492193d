/- Trim, Degree, Add and Mul return what the reference returns, or the error. No condition (up to 60 coefficients are examined). -/
import Derived.Test.YtjoiiclahcghbaaPGx28
import Derived.Test.YtjoiiclahcghbaaPb
import Derived.Test.YtjoiiclahcghbaaPr
namespace Go.Proofs.Ytjoiiclahcghbaa.Pure
open Go.RowKit Go.Proofs.Ytjoiiclahcghbaa.PG Go.Proofs.YtjoiiclahcghbaaW.PrintWords Go.Proofs.YtjoiiclahcghbaaW.PrintLast Go.Proofs.Ytjoiiclahcghbaa.Gf
/-- x^n -/
def xn (n : Nat) : List F := List.replicate n 0#8 ++ [1#8]
theorem xn_length (n : Nat) : (xn n).length = n + 1 := by simp [xn]
theorem co_xn (n : Nat) : co (xn n) = ups n on := by
  rw [xn, co_term]
  congr 1
  exact sm_one on
theorem nrm_xn (n : Nat) : trim (xn n) = xn n := nrm_of_lead (fun _ => by rw [xn_length, co_xn, ups_at, if_neg (by omega)]; simp [on])
theorem xn_ne (n : Nat) : xn n ≠ [] := fun e => by
  have := xn_length n
  rw [e] at this
  simp at this
theorem xn_IL (n : Nat) : (List.replicate (n + 1) (0 : Int)).set n 1 = IL (xn n) := by
  rw [IL_replicate, show (1 : Int) = I 1#8 from rfl, IL_set]
  have := set_zeros n 1#8 []
  rw [List.append_nil] at this
  rw [this]
  rfl
theorem PolynomialProducts : kinkeeplaw06_PolynomialProducts.Pure := by
  intro l0 l1 a2 _ _ h0 _ _ h1 h2
  obtain ⟨p, rfl⟩ := of_wfs h0
  obtain ⟨q, rfl⟩ := of_wfs h1
  obtain ⟨n, hn1, hn2⟩ : ∃ n : Nat, Int.tmod (wrap64 a2) 1100 = (n : Int) ∧ n < 1100 := by
    have e0 : IntKind.u16.min = 0 := rfl
    have e1 : IntKind.u16.max = 65535 := rfl
    have : 0 ≤ a2 ∧ a2 ≤ 65535 := by
      simp [Lit.wf, e0, e1] at h2
      omega
    refine ⟨(a2 % 1100).toNat, ?_, by omega⟩
    rw [w64 (by omega) (by omega), Int.tmod_eq_emod_of_nonneg (by omega)]
    omega
  apply Ev.rounds
  unfold kinkeeplaw06_PolynomialProducts.f
  refine Ev.bind awake6_ev ?_
  simp only [if_true, IL_length]
  have htrue : Ev (fun k => kinkeeplaw06_PolynomialProducts.j0 k (IL p) (IL q) a2 true) true := by
    refine Ev.step (fun k => kinkeeplaw06_PolynomialProducts.j0.eq_2 _ _ _ _ _) ?_
    simp only [if_true]
    exact Ev.now _
  by_cases hp : (p.length : Int) > 60
  · simp only [if_pos hp]
    exact htrue
  · simp only [if_neg hp]
    by_cases hq : (q.length : Int) > 60
    · simp only [decide_eq_true hq]
      exact htrue
    · simp only [decide_eq_false hq]
      have htp := trim_len p
      have htq := trim_len q
      refine Ev.step (fun k => kinkeeplaw06_PolynomialProducts.j0.eq_2 _ _ _ _ _) ?_
      simp only [if_neg ff]
      refine Ev.bind (Trim_ev p (by omega)) (Ev.bind (rTrim_ev p (by omega)) ?_)
      simp only [same_I, Option.bind_some, if_true]
      refine Ev.bind (Degree_ev p (by omega)) (Ev.bind (rDegree_ev p (by omega)) ?_)
      simp only [if_true]
      refine Ev.bind (Add_ev p q (by omega) (by omega)) (Ev.bind (rAdd_ev p q (by omega) (by omega)) ?_)
      simp only [same_I, Option.bind_some, Bool.not_true]
      refine Ev.step (fun k => kinkeeplaw06_PolynomialProducts.j1.eq_2 _ _ _ _ _) ?_
      simp only [if_neg ff]
      refine Ev.bind (pMul_ev p q (by omega) (by omega) (.inr (.inr (by omega)))) ?_
      simp only [if_true]
      refine Ev.bind (rMulP_ev p q (by omega)) ?_
      simp only [same_I, Option.bind_some, Bool.not_true]
      refine Ev.step (fun k => kinkeeplaw06_PolynomialProducts.j2.eq_2 _ _ _ _) ?_
      have hw : wrap64 ((n : Int) + 1) = ((n + 1 : Nat) : Int) := by rw [w64 (by omega) (by omega)]; omega
      simp only [if_neg ff, hn1, hw, Int.toNat_natCast, if_pos (show (0 : Int) ≤ ((n + 1 : Nat) : Int) by omega), if_pos (show n + 1 ≤ 281474976710656 by omega), Option.bind_some, if_pos (show (0 : Int) ≤ (n : Int) by omega), List.length_replicate, if_pos (show (n : Int) < ((n + 1 : Nat) : Int) by omega), xn_IL]
      have hxl := xn_length n
      by_cases hz : trim p = []
      · have hnil : mulP (xn n) p = [] := (nrm_mulP _ _).ext nrm_nil (by rw [co_mulP, ← co_trim p, hz, co_nil, cv_ze])
        have hM := pMul_ev (xn n) p (by omega) (by omega) (.inr (.inl hz))
        rw [hnil] at hM
        refine Ev.bind hM (Ev.bind (rDegree_ev p (by omega)) ?_)
        simp only [hz, List.length_nil, if_neg (show ¬ (((0 : Nat) : Int) - 1 ≥ 0) by decide)]
        refine Ev.step (fun k => kinkeeplaw06_PolynomialProducts.j3.eq_2 _ _ _ _ _ _ _) ?_
        simp only [if_neg ff, if_pos neg1, if_true]
        exact Ev.now _
      · have hl := List.length_pos_iff.2 hz
        have hg : ((trim p).length : Int) - 1 ≥ 0 := by omega
        by_cases hs : n + (trim p).length ≤ 1024
        · have hM := pMul_ev (xn n) p (by omega) (by omega) (.inr (.inr (by rw [nrm_xn]; omega)))
          have hml : (mulP (xn n) p).length = n + (trim p).length := by
            rw [mulP_length (by rw [nrm_xn]; exact xn_ne n) hz, nrm_xn]
            omega
          have hmn : trim (mulP (xn n) p) = mulP (xn n) p := nrm_mulP _ _
          refine Ev.bind hM (Ev.bind (rDegree_ev p (by omega)) ?_)
          have hw2 : wrap64 ((n : Int) + (((trim p).length : Int) - 1)) = ((n + (trim p).length : Nat) : Int) - 1 := by rw [w64 (by omega) (by omega)]; omega
          simp only [if_pos hg, hw2, decide_eq_false (show ¬ (((n + (trim p).length : Nat) : Int) - 1 > 1023) by omega)]
          refine Ev.step (fun k => kinkeeplaw06_PolynomialProducts.j3.eq_2 _ _ _ _ _ _ _) ?_
          simp only [if_neg ff, if_neg (show ¬ (((trim p).length : Int) - 1 < 0) by omega), if_true, hw2]
          refine Ev.bind (Degree_ev _ (by omega)) ?_
          have hAt : kinkeepref06_At.f (IL p) 0 = some (I (co p 0)) := rAt_I p 0
          have hco : co (mulP (xn n) p) n = co p 0 := by
            rw [co_mulP, co_xn, cv_ups, on_cv, ups_at, if_neg (by omega), Nat.sub_self]
          rw [hmn, hml]
          simp only [if_true, IL_length, hml, if_pos (show (0 : Int) ≤ (n : Int) by omega), if_pos (show (n : Int) < ((n + (trim p).length : Nat) : Int) by omega), hAt, Option.bind_some, rd_co, hco, beq_self_eq_true]
          exact Ev.now _
        · have hM := pMul_big (xn n) p (by omega) (by omega) (by rw [nrm_xn]; exact xn_ne n) hz (by rw [nrm_xn]; omega)
          refine Ev.bind hM (Ev.bind (rDegree_ev p (by omega)) ?_)
          have hw2 : wrap64 ((n : Int) + (((trim p).length : Int) - 1)) = ((n + (trim p).length : Nat) : Int) - 1 := by rw [w64 (by omega) (by omega)]; omega
          simp only [if_pos hg, hw2, decide_eq_true (show (((n + (trim p).length : Nat) : Int) - 1 > 1023) by omega)]
          refine Ev.step (fun k => kinkeeplaw06_PolynomialProducts.j3.eq_2 _ _ _ _ _ _ _) ?_
          simp only [if_true]
          exact Ev.now _
end Go.Proofs.Ytjoiiclahcghbaa.Pure
