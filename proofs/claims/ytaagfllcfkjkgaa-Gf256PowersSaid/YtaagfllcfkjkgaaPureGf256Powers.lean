/- For every element and every exponent: Pow, Exp, Log, Order and Sqrt return what the reference returns, and the errors. No condition. -/
import Derived.Test.YtaagfllcfkjkgaaPGx15
import Derived.Test.YtaagfllcfkjkgaaSa
import Derived.Test.YtaagfllcfkjkgaaSp
namespace Go.Proofs.Ytaagfllcfkjkgaa.Pure
open Go.RowKit Go.Proofs.Ytaagfllcfkjkgaa.PG Go.Proofs.YtaagfllcfkjkgaaW.PrintWords Go.Proofs.YtaagfllcfkjkgaaW.PrintLast Go.Proofs.Ytaagfllcfkjkgaa.Gf
theorem Gf256Powers : kinkeeplaw02_Gf256Powers.Pure := by
  intro a0 n h0 _
  obtain ⟨a, rfl⟩ := of_wf h0
  apply Ev.rounds
  unfold kinkeeplaw02_Gf256Powers.f
  refine Ev.bind awake_ev ?_
  simp only [if_true]
  have h2 : Ev (fun k => kinkeepref02_Pow.f k 2 n) (I (pow 2#8 (red n))) := rPow_ev (a := 2#8) (by decide) n
  by_cases ha : a = 0#8
  · subst ha
    have hs := Sqrt_ev 0#8
    have hr := rSqrt_ev 0#8
    simp only [I_zero] at hs hr ⊢
    simp only [Log_0, Option.bind_some]
    refine Ev.bind Pow0_ev (Ev.bind Order_0 (Ev.bind Exp_ev (Ev.bind h2 ?_)))
    simp only [if_true]
    refine Ev.bind hs (Ev.bind hr ?_)
    simp only [bne_self_eq_false]
    refine Ev.step (fun k => kinkeeplaw02_Gf256Powers.j0.eq_2 _ _ _ _ _ _ _ _ _ _) ?_
    simp only [if_neg (show ¬ (false = true) by decide), if_true]
    by_cases hn : n < 0
    · simp only [if_neg (show ¬ n = 0 by omega), if_pos hn, if_true, beq_self_eq_true]
      exact Ev.now _
    · simp only [if_neg hn]
      have hp := rPow0_ev n
      by_cases h0 : n = 0
      · simp only [if_pos h0, if_true] at hp ⊢
        refine Ev.bind hp ?_
        simp only [if_true, beq_self_eq_true]
        exact Ev.now _
      · simp only [if_neg h0, if_true] at hp ⊢
        refine Ev.bind hp ?_
        simp only [if_true, beq_self_eq_true]
        exact Ev.now _
  · simp only [Log_I ha, Option.bind_some]
    refine Ev.bind (Pow_ev ha) (Ev.bind (Order_ev ha) (Ev.bind Exp_ev (Ev.bind h2 ?_)))
    simp only [if_true]
    refine Ev.bind (Sqrt_ev a) (Ev.bind (rSqrt_ev a) ?_)
    simp only [bne_self_eq_false]
    refine Ev.step (fun k => kinkeeplaw02_Gf256Powers.j0.eq_2 _ _ _ _ _ _ _ _ _ _) ?_
    simp only [if_neg (show ¬ (false = true) by decide), if_neg (show ¬ I a = 0 from fun h => ha (I_eq_zero.1 h)), if_true]
    refine Ev.bind (rPow_ev ha n) ?_
    simp only [if_true]
    refine Ev.bind (rLog_ev ha) ?_
    simp only [if_true]
    refine Ev.bind (rOrder_ev ha) ?_
    simp only [beq_self_eq_true]
    exact Ev.now _
end Go.Proofs.Ytaagfllcfkjkgaa.Pure
