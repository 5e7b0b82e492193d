/- For every a and b: squaring is additive, Sqrt inverts it, and the power 256 changes nothing. No condition. -/
import Derived.Test.YtaagfllcfkjkgaaPGx9
import Derived.Test.YtaagfllcfkjkgaaSa
namespace Go.Proofs.Ytaagfllcfkjkgaa.Pure
open Go.RowKit Go.Proofs.Ytaagfllcfkjkgaa.PG Go.Proofs.YtaagfllcfkjkgaaW.PrintWords Go.Proofs.YtaagfllcfkjkgaaW.PrintLast Go.Proofs.Ytaagfllcfkjkgaa.Gf
theorem sq_add (a b : F) : mul (a ^^^ b) (a ^^^ b) = mul a a ^^^ mul b b := by
  rw [mul_add_left, mul_add_right, mul_add_right, mul_comm b a, BitVec.xor_assoc, ← BitVec.xor_assoc (mul a b), BitVec.xor_self, BitVec.zero_xor]
theorem pow255 : ∀ a : F, a ≠ 0#8 → raiseN 8 a 255 1#8 = 1#8 := by decide +kernel
theorem pow256 (a : F) : pow a 256 = a := by
  by_cases h : a = 0#8
  · subst h
    exact mul_zero _
  · have := pow255 a h
    rw [raise_eq a 255 (by decide)] at this
    show mul (pow a 255) a = a
    rw [this, one_mul]
theorem sqrt_sq (a : F) : pow (mul a a) 128 = a := by rw [pow_sq]; exact pow256 a
theorem sq_sqrt (a : F) : mul (pow a 128) (pow a 128) = a := by rw [← pow_add]; exact pow256 a
theorem pow_red256 (a : F) : Ev (fun k => gf256_Pow.f k (I a) 256) (I a, 0) := by
  by_cases h : a = 0#8
  · subst h
    exact Pow0_ev (n := 256)
  · have := Pow_ev (n := 256) h
    have hr : pow a (red 256) = a := one_mul a
    rwa [hr] at this
theorem Gf256Squares : kinkeeplaw02_Gf256Squares.Pure := by
  intro a0 a1 h0 h1
  obtain ⟨a, rfl⟩ := of_wf h0
  obtain ⟨b, rfl⟩ := of_wf h1
  apply Ev.rounds
  unfold kinkeeplaw02_Gf256Squares.f
  refine Ev.bind awake_ev ?_
  simp only [if_true, Add_I, Option.bind_some]
  refine Ev.bind (pow_red256 a) (Ev.bind (Sqrt_ev a) (Ev.bind (Mul_ev _ _) (Ev.bind (Mul_ev a a) (Ev.bind (Mul_ev b b) ?_))))
  simp only [Add_I, Option.bind_some, sq_add, if_true]
  have hs := Sqrt_ev (mul a a)
  rw [sqrt_sq] at hs
  refine Ev.bind (Mul_ev a a) (Ev.bind hs ?_)
  simp only [if_true]
  have hm := Mul_ev (pow a 128) (pow a 128)
  rw [sq_sqrt] at hm
  refine Ev.bind hm ?_
  simp only [if_true, beq_self_eq_true]
  exact Ev.now _
end Go.Proofs.Ytaagfllcfkjkgaa.Pure
