/- For every a and b: Add, Mul, Div and Inv return what the reference returns, and the errors. No condition. -/
import Derived.Test.YtaagfllcfkjkgaaPGx10
import Derived.Test.YtaagfllcfkjkgaaSa
import Derived.Test.YtaagfllcfkjkgaaSr
namespace Go.Proofs.Ytaagfllcfkjkgaa.Pure
open Go.RowKit Go.Proofs.Ytaagfllcfkjkgaa.PG Go.Proofs.YtaagfllcfkjkgaaW.PrintWords Go.Proofs.YtaagfllcfkjkgaaW.PrintLast Go.Proofs.Ytaagfllcfkjkgaa.Gf
theorem Gf256Products : kinkeeplaw02_Gf256Products.Pure := by
  intro a0 a1 h0 h1
  obtain ⟨a, rfl⟩ := of_wf h0
  obtain ⟨b, rfl⟩ := of_wf h1
  apply Ev.rounds
  unfold kinkeeplaw02_Gf256Products.f
  refine Ev.bind awake_ev ?_
  simp only [if_true]
  by_cases hb : b = 0#8
  · subst hb
    refine Ev.bind Div0_ev (Ev.bind Inv0_ev ?_)
    simp only [Add_I, xor_I, Option.bind_some, if_true]
    refine Ev.bind (Mul_ev _ _) (Ev.bind (rMul_ev _ _) ?_)
    simp only [bne_self_eq_false]
    refine Ev.step (fun k => kinkeeplaw02_Gf256Products.j0.eq_2 _ _ _ _ _ _ _ _) ?_
    simp only [I_zero, if_true, if_neg (show ¬ (false = true) by decide), beq_self_eq_true]
    exact Ev.now _
  · refine Ev.bind (Div_ev hb) (Ev.bind (Inv_ev hb) ?_)
    simp only [Add_I, xor_I, Option.bind_some, if_true]
    refine Ev.bind (Mul_ev _ _) (Ev.bind (rMul_ev _ _) ?_)
    simp only [bne_self_eq_false]
    refine Ev.step (fun k => kinkeeplaw02_Gf256Products.j0.eq_2 _ _ _ _ _ _ _ _) ?_
    simp only [if_true, if_neg (show ¬ (false = true) by decide), if_neg (show ¬ I b = 0 from fun h => hb (I_eq_zero.1 h))]
    refine Ev.bind (rInv_ev hb) ?_
    simp only [if_true]
    first
      | (refine Ev.bind (rInv_ev hb) (Ev.bind (rMul_ev _ _) ?_)
         simp only [beq_self_eq_true]
         exact Ev.now _)
      | (refine Ev.bind (rMul_ev _ _) ?_
         simp only [beq_self_eq_true]
         exact Ev.now _)
end Go.Proofs.Ytaagfllcfkjkgaa.Pure
