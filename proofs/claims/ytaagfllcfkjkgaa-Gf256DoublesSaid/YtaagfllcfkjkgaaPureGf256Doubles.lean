/- For every a and b the product with 2 is the shift, and the product with any element respects it. No condition. -/
import Derived.Test.YtaagfllcfkjkgaaPGx8
import Derived.Test.YtaagfllcfkjkgaaSa
namespace Go.Proofs.Ytaagfllcfkjkgaa.Pure
open Go.RowKit Go.Proofs.Ytaagfllcfkjkgaa.PG Go.Proofs.YtaagfllcfkjkgaaW.PrintWords Go.Proofs.YtaagfllcfkjkgaaW.PrintLast Go.Proofs.Ytaagfllcfkjkgaa.Gf
theorem dbl_mul : ∀ a : F, mul 2#8 a = dbl a := by decide +kernel
theorem mul_dbl (a b : F) : mul a (dbl b) = mul (dbl a) b := by
  rw [← dbl_mul, ← dbl_mul, ← mul_assoc, mul_comm a 2#8]
theorem dbl_cases : ∀ a : F, if I a ≥ 128 then Go.bits .xor .u8 ((I a * 2) % 256) 29 = I (dbl a) else (I a * 2) % 256 = I (dbl a) := by decide +kernel
theorem j0_ev (a b : F) : Ev (fun k => kinkeeplaw02_Gf256Doubles.j0 k (I a) (I b) (I (dbl a))) true := by
  have h2 : I 2#8 = 2 := rfl
  have m1 := Mul_ev 2#8 b
  have m2 := Mul_ev 2#8 a
  rw [h2, dbl_mul] at m1 m2
  refine Ev.step (fun k => kinkeeplaw02_Gf256Doubles.j0.eq_2 _ _ _ _) ?_
  refine Ev.bind m1 (Ev.bind m2 ?_)
  simp only [if_true]
  refine Ev.bind (Mul_ev a (dbl b)) (Ev.bind (Mul_ev (dbl a) b) ?_)
  rw [mul_dbl]
  simp only [beq_self_eq_true]
  exact Ev.now _
theorem Gf256Doubles : kinkeeplaw02_Gf256Doubles.Pure := by
  intro a0 a1 h0 h1
  obtain ⟨a, rfl⟩ := of_wf h0
  obtain ⟨b, rfl⟩ := of_wf h1
  apply Ev.rounds
  unfold kinkeeplaw02_Gf256Doubles.f
  refine Ev.bind awake_ev ?_
  simp only [if_true]
  have hc := dbl_cases a
  by_cases h : I a ≥ 128
  · simp only [if_pos h] at hc ⊢
    rw [hc]
    exact j0_ev a b
  · simp only [if_neg h] at hc ⊢
    rw [hc]
    exact j0_ev a b
end Go.Proofs.Ytaagfllcfkjkgaa.Pure
