/- For all slices (up to 200 elements are examined) MulAdd and Dot are linear. No condition. -/
import Derived.Test.YtaagfllcfkjkgaaPGx13
import Derived.Test.YtaagfllcfkjkgaaSa
import Derived.Test.YtaagfllcfkjkgaaSl
namespace Go.Proofs.Ytaagfllcfkjkgaa.Pure
open Go.RowKit Go.Proofs.Ytaagfllcfkjkgaa.PG Go.Proofs.YtaagfllcfkjkgaaW.PrintWords Go.Proofs.YtaagfllcfkjkgaaW.PrintLast Go.Proofs.Ytaagfllcfkjkgaa.Gf
theorem ma_ma (a b : F) : ∀ x y : List F, maL (maL x y a) y b = maL x y (a ^^^ b)
  | [], _ => rfl
  | _ :: _, [] => rfl
  | u :: x, v :: y => by
    have := ma_ma a b x y
    unfold maL at this ⊢
    rw [List.zipWith_cons_cons, List.zipWith_cons_cons, List.zipWith_cons_cons, this, mul_add_right, BitVec.xor_assoc]
theorem dot_ma (a : F) : ∀ x y z : List F, x.length = y.length → dotL (maL x y a) z = dotL x z ^^^ mul a (dotL y z)
  | [], [], z, _ => by simp [maL, dotL, mul_zero]
  | u :: x, v :: y, [], _ => by simp [maL, dotL, mul_zero]
  | u :: x, v :: y, w :: z, h => by
    have := dot_ma a x y z (by simpa using h)
    unfold maL at this ⊢
    rw [List.zipWith_cons_cons, dotL, dotL, dotL, this, mul_add_left, mul_add_right, mul_comm v a, mul_assoc, xor4]
  | [], _ :: _, _, h => by simp at h
  | _ :: _, [], _, h => by simp at h
theorem Gf256Linear : kinkeeplaw02_Gf256Linear.Pure := by
  intro l0 l1 l2 a3 a4 _ _ h0 _ _ h1 _ _ h2 h3 h4
  obtain ⟨x, rfl⟩ := of_wfs h0
  obtain ⟨y, rfl⟩ := of_wfs h1
  obtain ⟨z, rfl⟩ := of_wfs h2
  obtain ⟨a, rfl⟩ := of_wf h3
  obtain ⟨b, rfl⟩ := of_wf h4
  apply Ev.rounds
  unfold kinkeeplaw02_Gf256Linear.f
  refine Ev.bind awake_ev ?_
  simp only [if_true, IL_length]
  have htrue : Ev (fun k => kinkeeplaw02_Gf256Linear.j0 k (IL x) (IL y) (IL z) (I a) (I b) true) true := by
    refine Ev.step (fun k => kinkeeplaw02_Gf256Linear.j0.eq_2 _ _ _ _ _ _ _) ?_
    simp only [if_true]
    exact Ev.now _
  by_cases hxy : x.length = y.length
  · simp only [if_pos (show (x.length : Int) = (y.length : Int) by omega)]
    by_cases hyz : y.length = z.length
    · simp only [if_pos (show (y.length : Int) = (z.length : Int) by omega)]
      by_cases hx : (x.length : Int) > 200
      · simp only [decide_eq_true hx]
        exact htrue
      · refine Ev.step (fun k => kinkeeplaw02_Gf256Linear.j0.eq_2 _ _ _ _ _ _ _) ?_
        simp only [decide_eq_false hx, if_neg (show ¬ (false = true) by decide)]
        have hm := maL_length a hxy
        refine Ev.bind (MulAdd_ev a hxy (by omega)) (Ev.bind (MulAdd_ev b (by omega) (by omega)) ?_)
        simp only [Add_I, Option.bind_some]
        refine Ev.bind (MulAdd_ev (a ^^^ b) hxy (by omega)) ?_
        simp only [if_true, ma_ma, bne_self_eq_false]
        refine Ev.step (fun k => kinkeeplaw02_Gf256Linear.j1.eq_2 _ _ _ _ _ _ _) ?_
        simp only [if_neg (show ¬ (false = true) by decide)]
        refine Ev.bind (Dot_ev (by omega) (by omega)) (Ev.bind (Dot_ev (by omega) (by omega)) (Ev.bind (Dot_ev (by omega) (by omega)) ?_))
        simp only [if_true]
        refine Ev.bind (Mul_ev _ _) ?_
        simp only [Add_I, Option.bind_some, dot_ma a x y z hxy, beq_self_eq_true]
        exact Ev.now _
    · simp only [if_neg (show ¬ (y.length : Int) = (z.length : Int) by omega)]
      exact htrue
  · simp only [if_neg (show ¬ (x.length : Int) = (y.length : Int) by omega)]
    exact htrue
end Go.Proofs.Ytaagfllcfkjkgaa.Pure
