/- The greatest common divisor divides both, has the leading coefficient 1, and a common factor is a factor of it. No condition (up to 30 coefficients are examined). -/
import Derived.Test.YtjoiiclahcghbaaPGx34
import Derived.Test.YtjoiiclahcghbaaPb
namespace Go.Proofs.Ytjoiiclahcghbaa.Pure
open Go.RowKit Go.Proofs.Ytjoiiclahcghbaa.PG Go.Proofs.YtjoiiclahcghbaaW.PrintWords Go.Proofs.YtjoiiclahcghbaaW.PrintLast Go.Proofs.Ytjoiiclahcghbaa.Gf
/-- gcd(p r, q r) is a multiple of gcd(p, q) r by an element. -/
theorem gcd_scaled {p q r : List F} (hz : gcdP p q ≠ []) (hr : trim r ≠ []) : ∃ c : F, c ≠ 0#8 ∧ co (gcdP (mulP p r) (mulP q r)) = sm c (cv (co (gcdP p q)) (co r)) := by
  obtain ⟨hg, _, _⟩ := gcdP_ok p q
  obtain ⟨hH, _, _⟩ := gcdP_ok (mulP p r) (mulP q r)
  have ha : Nrm (mulP (gcdP p q) r) := nrm_mulP _ _
  have hgn : trim (gcdP p q) = gcdP p q := hg.nrm
  have ha0 : mulP (gcdP p q) r ≠ [] := fun e => by
    have := mulP_length (p := gcdP p q) (q := r) (by rw [hgn]; exact hz) hr
    rw [e, hgn] at this
    have h1 := List.length_pos_iff.2 hz
    have h2 := List.length_pos_iff.2 hr
    simp at this
    omega
  have d1 : Dv (mulP (gcdP p q) r) (mulP p r) := by
    obtain ⟨d, hd⟩ := hg.left
    exact ⟨d, by rw [co_mulP, co_mulP, hd, cv_assoc]⟩
  have d2 : Dv (mulP (gcdP p q) r) (mulP q r) := by
    obtain ⟨d, hd⟩ := hg.right
    exact ⟨d, by rw [co_mulP, co_mulP, hd, cv_assoc]⟩
  have d3 := hH.greatest d1 d2
  have d4 : Dv (gcdP (mulP p r) (mulP q r)) (mulP (gcdP p q) r) := by
    obtain ⟨u, v, huv⟩ := hg.bez
    exact Dv.add (hH.left.mul u (co_mulL _ _)) (hH.right.mul v (co_mulL _ _)) (by rw [co_mulL, co_mulL, co_mulP, co_mulP, co_mulP, huv, cv_ad_left, cv_assoc, cv_assoc])
  have hH0 := (d4.length hH.nrm ha ha0).1
  obtain ⟨c, hc, hco, _⟩ := assoc_eq ha hH.nrm hH0 d3 d4
  exact ⟨c, hc, by rw [hco, co_mulP]⟩
theorem PolynomialCommon : kinkeeplaw06_PolynomialCommon.Pure := by
  intro l0 l1 l2 _ _ h0 _ _ h1 _ _ h2
  obtain ⟨p, rfl⟩ := of_wfs h0
  obtain ⟨q, rfl⟩ := of_wfs h1
  obtain ⟨r, rfl⟩ := of_wfs h2
  apply Ev.rounds
  unfold kinkeeplaw06_PolynomialCommon.f
  refine Ev.bind awake6_ev ?_
  simp only [if_true]
  refine Ev.bind (many_ev [IL p, IL q, IL r] (by simp)) ?_
  by_cases hm : ([IL p, IL q, IL r].any fun l => decide ((l.length : Int) > 30)) = true
  · simp only [if_pos hm]
    exact Ev.now _
  · simp only [if_neg hm]
    have hb : p.length ≤ 30 ∧ q.length ≤ 30 ∧ r.length ≤ 30 := by
      simp [IL_length] at hm
      omega
    obtain ⟨hg, hg0, hgl⟩ := gcdP_ok p q
    have hgn : trim (gcdP p q) = gcdP p q := hg.nrm
    have hgle := gcdP_le p q
    refine Ev.bind (GCD_ev p q (by omega) (by omega)) ?_
    by_cases hz : gcdP p q = []
    · obtain ⟨a, b⟩ := hg0 hz
      have a' := trim_eq_nil.2 a
      have b' := trim_eq_nil.2 b
      simp only [hz, IL_length, List.length_nil, Int.natCast_zero, if_true]
      refine Ev.bind (Degree_ev p (by omega)) ?_
      simp only [a', List.length_nil, if_pos neg1]
      refine Ev.bind (Degree_ev q (by omega)) ?_
      simp only [b', List.length_nil, decide_eq_true neg1]
      exact Ev.now _
    · have hl := List.length_pos_iff.2 hz
      simp only [IL_length, if_neg (show ¬ ((gcdP p q).length : Int) = 0 by omega)]
      have hD1 := DivMod_ev p (gcdP p q) (by rw [hgn]; exact hz) (by omega) (by omega)
      have hD2 := DivMod_ev q (gcdP p q) (by rw [hgn]; exact hz) (by omega) (by omega)
      rw [hgn] at hD1 hD2
      have z1 := (divP_zero hg.nrm hz).2 hg.left
      have z2 := (divP_zero hg.nrm hz).2 hg.right
      refine Ev.bind hD1 (Ev.bind hD2 ?_)
      have hw : wrap64 (((gcdP p q).length : Int) - 1) = (((gcdP p q).length - 1 : Nat) : Int) := by rw [w64 (by omega) (by omega)]; omega
      have hlead : rd (IL (gcdP p q)) (((gcdP p q).length - 1 : Nat) : Int) = 1 := by
        rw [rd_co]
        exact I_eq_one.2 (hgl hz)
      simp only [if_true, z1, z2, IL_length, List.length_nil, if_neg pos0, hw, if_pos (show (0 : Int) ≤ (((gcdP p q).length - 1 : Nat) : Int) by omega), if_pos (show (((gcdP p q).length - 1 : Nat) : Int) < ((gcdP p q).length : Int) by omega), hlead]
      have hG := GCD_ev q p (by omega) (by omega)
      rw [gcdP_comm q p] at hG
      refine Ev.bind hG ?_
      simp only [same_I, Option.bind_some, Bool.not_true]
      refine Ev.step (fun k => kinkeeplaw06_PolynomialCommon.j0.eq_2 _ _ _ _ _ _) ?_
      simp only [if_neg ff]
      refine Ev.bind (Degree_ev r (by omega)) ?_
      by_cases hr : trim r = []
      · simp only [hr, List.length_nil, if_pos neg1]
        exact Ev.now _
      · have hrl := List.length_pos_iff.2 hr
        have hrt := trim_len r
        have e1 := mulP_le p r
        have e2 := mulP_le q r
        have e3 := gcdP_le (mulP p r) (mulP q r)
        simp only [if_neg (show ¬ (((trim r).length : Int) - 1 < 0) by omega)]
        obtain ⟨c, hc, hco⟩ := gcd_scaled hz hr
        have hs : divP (gcdP (mulP p r) (mulP q r)) (gcdP p q) = (scL c (trim r), []) :=
          divP_eq hg.nrm hz ⟨by rw [co_nil, ad_ze, co_scL, co_trim, cv_sm_left, hco, cv_comm], fun i _ => by rw [co_nil]; rfl⟩ (nrm_scL hc (nrm_trim r)) nrm_nil
        have hcn : Nrm [c] := nrm_of_lead (fun _ => by simpa [co] using hc)
        have hs2 : divP (scL c (trim r)) (trim r) = ([c], []) :=
          divP_eq (nrm_trim r) hr ⟨by rw [co_nil, ad_ze, co_scL, co_const, cv_sm_left, on_cv], fun i _ => by rw [co_nil]; rfl⟩ hcn nrm_nil
        have hsn : trim (scL c (trim r)) = scL c (trim r) := nrm_scL hc (nrm_trim r)
        have hsl := scL_length c (trim r)
        have hD3 := DivMod_ev (gcdP (mulP p r) (mulP q r)) (gcdP p q) (by rw [hgn]; exact hz) (by omega) (by omega)
        rw [hgn, hs] at hD3
        have hD4 := DivMod_ev (scL c (trim r)) r hr (by omega) (by omega)
        rw [hs2] at hD4
        refine Ev.bind (mul6_ev p r (by omega) (by omega)) (Ev.bind (mul6_ev q r (by omega) (by omega)) (Ev.bind (GCD_ev _ _ (by omega) (by omega)) (Ev.bind hD3 (Ev.bind hD4 ?_))))
        simp only [if_true, IL_length, List.length_nil, Int.natCast_zero]
        refine Ev.bind (Degree_ev _ (by omega)) (Ev.bind (Degree_ev r (by omega)) ?_)
        rw [hsn, hsl, beq_self_eq_true]
        exact Ev.now _
end Go.Proofs.Ytjoiiclahcghbaa.Pure
