/- For every a, b and c: the elements are a field. No condition. -/
import Derived.Test.YtaagfllcfkjkgaaPGx11
import Derived.Test.YtaagfllcfkjkgaaSa
namespace Go.Proofs.Ytaagfllcfkjkgaa.Pure
open Go.RowKit Go.Proofs.Ytaagfllcfkjkgaa.PG Go.Proofs.YtaagfllcfkjkgaaW.PrintWords Go.Proofs.YtaagfllcfkjkgaaW.PrintLast Go.Proofs.Ytaagfllcfkjkgaa.Gf
theorem one_ev (a : F) : Ev (fun k => gf256_Mul.f k (I a) 1) (I a) := by
  have := Mul_ev a 1#8
  rwa [mul_one, I_one] at this
theorem inv_any (a : F) : Ev (fun k => gf256_Inv.f k (I a)) (if a = 0#8 then ((0 : Int), (1 : Int)) else (I (inv a), 0)) := by
  by_cases h : a = 0#8
  · subst h
    exact Inv0_ev
  · rw [if_neg h]
    exact Inv_ev h
theorem div_mul {a : F} (b : F) (h : a ≠ 0#8) : mul (mul b a) (inv a) = b := by rw [mul_assoc, inv_ok a h, mul_one]
theorem Gf256Field : kinkeeplaw02_Gf256Field.Pure := by
  intro a0 a1 a2 h0 h1 h2
  obtain ⟨a, rfl⟩ := of_wf h0
  obtain ⟨b, rfl⟩ := of_wf h1
  obtain ⟨c, rfl⟩ := of_wf h2
  apply Ev.rounds
  unfold kinkeeplaw02_Gf256Field.f
  refine Ev.bind awake_ev ?_
  simp only [if_true]
  refine Ev.bind (Mul_ev b c) (Ev.bind (Mul_ev a _) (Ev.bind (Mul_ev a b) (Ev.bind (Mul_ev _ c) ?_)))
  simp only [mul_assoc, if_true, Add_I, Option.bind_some, BitVec.xor_assoc, bne_self_eq_false]
  refine Ev.step (fun k => kinkeeplaw02_Gf256Field.j0.eq_2 _ _ _ _ _) ?_
  simp only [if_neg (show ¬ (false = true) by decide)]
  refine Ev.bind (Mul_ev a b) (Ev.bind (Mul_ev b a) ?_)
  simp only [mul_comm b a, if_true, Add_I, Option.bind_some, BitVec.xor_comm b a]
  first
    | refine Ev.bind (Mul_ev a _) (Ev.bind (Mul_ev a b) (Ev.bind (Mul_ev a c) ?_))
    | refine Ev.bind (Mul_ev a _) (Ev.bind (Mul_ev a c) ?_)
  simp only [mul_add_right, Add_I, Option.bind_some, bne_self_eq_false]
  refine Ev.step (fun k => kinkeeplaw02_Gf256Field.j1.eq_2 _ _ _ _) ?_
  simp only [if_neg (show ¬ (false = true) by decide)]
  refine Ev.bind (inv_any a) ?_
  have hz : gf256_Add.f (I a) 0 = some (I a) := by
    have := Add_I a 0#8
    rwa [BitVec.xor_zero] at this
  simp only [hz, Add_I, Option.bind_some, if_true, BitVec.xor_self]
  refine Ev.bind (one_ev a) ?_
  simp only [I_zero, if_true]
  by_cases ha : a = 0#8
  · subst ha
    simp only [if_true, I_zero, show ((1 : Int) == 0) = false by decide, show ((0 : Int) != 0) = false by decide, bne_self_eq_false]
    refine Ev.step (fun k => kinkeeplaw02_Gf256Field.j2.eq_2 _ _ _ _ _) ?_
    simp only [if_neg (show ¬ (false = true) by decide), if_true]
    have m := Mul_ev b 0#8
    rw [I_zero, mul_zero, I_zero] at m
    refine Ev.bind m (Ev.bind (Div0_ev (a := 0#8)) (Ev.now _))
  · have hn : (I a != 0) = true := bne_iff_ne.2 (fun h => ha (I_eq_zero.1 h))
    simp only [if_neg ha, hn, beq_self_eq_true, bne_self_eq_false]
    refine Ev.step (fun k => kinkeeplaw02_Gf256Field.j2.eq_2 _ _ _ _ _) ?_
    simp only [if_neg (show ¬ (false = true) by decide), if_neg (show ¬ I a = 0 from fun h => ha (I_eq_zero.1 h))]
    have m := Mul_ev a (inv a)
    rw [inv_ok a ha, I_one] at m
    refine Ev.bind (Mul_ev b a) (Ev.bind (Div_ev ha) (Ev.bind m ?_))
    simp only [if_true, div_mul b ha, beq_self_eq_true]
    exact Ev.now _
end Go.Proofs.Ytaagfllcfkjkgaa.Pure
