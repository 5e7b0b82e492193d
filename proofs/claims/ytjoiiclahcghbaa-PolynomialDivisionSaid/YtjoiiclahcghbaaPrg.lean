/- The reference's Monic and GCD. -/
import Derived.Test.YtjoiiclahcghbaaPGx39
import Derived.Test.YtjoiiclahcghbaaPr
namespace Go.Proofs.Ytjoiiclahcghbaa.PG
open Go.RowKit Go.Proofs.YtjoiiclahcghbaaW.PrintWords Go.Proofs.Ytjoiiclahcghbaa.Gf
/-! Monic, GCD -/
theorem mulP_monic {p : List F} (hp : Nrm p) : mulP p [inv (lead p)] = monic p :=
  (nrm_mulP _ _).ext (nrm_monic hp) (by rw [co_mulP, co_const, cv_sm_right, cv_on, co_monic])
theorem rMonic_ev {p : List F} (hp : Nrm p) (hB : p.length ≤ 100000) : Ev (fun k => kinkeepref06_Monic.f k (IL p)) (IL (monic p)) := by
  unfold kinkeepref06_Monic.f
  have ht := rTrim_ev p (by omega)
  rw [hp] at ht
  refine Ev.bind ht ?_
  by_cases hp0 : p = []
  · subst hp0
    simp only [IL_length, List.length_nil, Int.natCast_zero, if_true]
    exact Ev.now _
  · have hl : 0 < p.length := List.length_pos_iff.2 hp0
    have hw : wrap64 (((p.length : Nat) : Int) - 1) = ((p.length - 1 : Nat) : Int) := by rw [w64 (by omega) (by omega)]; omega
    simp only [IL_length, if_neg (show ¬ (p.length : Int) = 0 by omega), hw, if_pos (show (0 : Int) ≤ ((p.length - 1 : Nat) : Int) by omega), if_pos (show ((p.length - 1 : Nat) : Int) < (p.length : Int) by omega), rd_co]
    refine Ev.bind (rInv_ev (hp.lead hp0)) ?_
    rw [← mulP_monic hp]
    exact Ev.bind (rMulP_ev p [inv (lead p)] (by simp <;> omega)) (Ev.now _)
theorem rGCD_l0_ev (n : Nat) : ∀ p q : List F, Nrm p → Nrm q → q.length < n → p.length ≤ 10000 → q.length ≤ 10000 → Ev (fun k => kinkeepref06_GCD.l0 k (IL p) (IL q)) (IL (monic (gcdGo n p q))) := by
  induction n with
  | zero => intro p q _ _ h; omega
  | succ n ih =>
    intro p q hp hq hn hpl hql
    refine Ev.step (fun k => kinkeepref06_GCD.l0.eq_2 _ _ _) ?_
    rw [gcdGo]
    by_cases h : q = []
    · subst h
      simp only [IL_length, List.length_nil, Int.natCast_zero, if_neg (show ¬ ((0 : Int) > 0) by decide), if_true]
      exact Ev.bind (rMonic_ev hp (by omega)) (Ev.now _)
    · have hl : 0 < q.length := List.length_pos_iff.2 h
      simp only [IL_length, if_pos (show (q.length : Int) > 0 by omega), if_neg h]
      have h2 := divP_len p hq h
      have hD := rDivMod_ev p q (by rw [hq]; exact h) hpl hql
      rw [hq] at hD
      refine Ev.bind hD ?_
      exact ih q (divP p q).2 hq (divP_ok p hq h).2.2.1 (by omega) hql (by omega)
theorem rGCD_ev (p q : List F) (hp : p.length ≤ 10000) (hB : q.length ≤ 10000) : Ev (fun k => kinkeepref06_GCD.f k (IL p) (IL q)) (IL (gcdP p q)) := by
  have h1 := trim_len p
  have h2 := trim_len q
  unfold kinkeepref06_GCD.f
  exact Ev.bind (rTrim_ev p (by omega)) (Ev.bind (rTrim_ev q (by omega)) (rGCD_l0_ev _ _ _ (nrm_trim p) (nrm_trim q) (by omega) (by omega) (by omega)))
end Go.Proofs.Ytjoiiclahcghbaa.PG
