/- The examples of layer 6 hold: awake answers true; many, mul. -/
import Derived.Test.YtjoiiclahcghbaaPGx25
import Derived.Test.YtjoiiclahcghbaaPGx26
import Derived.Test.YtjoiiclahcghbaaPt
import Derived.Test.YtjoiiclahcghbaaPq
namespace Go.Proofs.Ytjoiiclahcghbaa.PG
open Go.RowKit Go.Proofs.YtjoiiclahcghbaaW.PrintWords Go.Proofs.Ytjoiiclahcghbaa.Gf
theorem awake6_ev : Ev (fun k => kinkeeplaw06_awake.f k) true := by
  have h1 : Ev (fun k => polynomial_Mul.f k ([1, 1] : List Int) ([2, 1] : List Int)) (([2, 3, 1] : List Int), (0 : Int)) := by
    have := pMul_ev [1#8, 1#8] [2#8, 1#8] (by decide) (by decide) (.inr (.inr (by decide)))
    rwa [show mulP [1#8, 1#8] [2#8, 1#8] = [2#8, 3#8, 1#8] by decide +kernel] at this
  have h2 : Ev (fun k => polynomial_DivMod.f k ([0, 0, 1] : List Int) ([1, 1] : List Int)) (([1, 1] : List Int), ([1] : List Int), (0 : Int)) := by
    have := DivMod_ev [0#8, 0#8, 1#8] [1#8, 1#8] (by decide) (by decide) (by decide)
    rwa [show divP [0#8, 0#8, 1#8] (trim [1#8, 1#8]) = ([1#8, 1#8], [1#8]) by decide +kernel] at this
  have h3 : Ev (fun k => polynomial_Interpolate.f k ([0, 1] : List Int) ([2, 0] : List Int)) (([2, 2] : List Int), (0 : Int)) := by
    have := Interpolate_ev (xs := [0#8, 1#8]) (ys := [2#8, 0#8]) rfl (by decide) (by decide)
    rwa [show itP [0#8, 1#8] [2#8, 0#8] = [2#8, 2#8] by decide +kernel] at this
  have h4 : Ev (fun k => polynomial_Roots.f k ([2, 3, 1] : List Int)) (([1, 2] : List Int), (0 : Int)) := by
    have := Roots_ev [2#8, 3#8, 1#8] (by decide) (by decide)
    rwa [show rootsP [2#8, 3#8, 1#8] = [1#8, 2#8] by decide +kernel] at this
  have h5 : Ev (fun k => polynomial_DivMod.f k ([1] : List Int) ([] : List Int)) (([] : List Int), ([] : List Int), (1 : Int)) := DivMod0_ev [1#8] [] rfl (by decide)
  unfold kinkeeplaw06_awake.f
  refine Ev.bind h1 (Ev.bind h2 (Ev.bind h3 (Ev.bind h4 (Ev.bind h5 ?_))))
  simp only [if_true, same_I, Option.bind_some, beq_self_eq_true]
  exact Ev.now _
theorem many_l0_ev (L : List (List Int)) (hB : L.length ≤ 1000) (d : Nat) : ∀ i, i + d = L.length → Ev (fun k => kinkeeplaw06_many.l0 k L (L.length : Int) (i : Int)) ((L.drop i).any fun l => decide ((l.length : Int) > 30)) := by
  induction d with
  | zero =>
    intro i hi
    refine Ev.step (fun k => kinkeeplaw06_many.l0.eq_2 _ _ _ _) ?_
    simp only [if_neg (show ¬ ((i : Int) < (L.length : Int)) by omega)]
    rw [List.drop_of_length_le (by omega)]
    exact Ev.now _
  | succ d ih =>
    intro i hi
    have hL : i < L.length := by omega
    refine Ev.step (fun k => kinkeeplaw06_many.l0.eq_2 _ _ _ _) ?_
    have hr : rd_L1 L (i : Int) = L[i] := by simp [rd_L1, hL]
    simp only [if_pos (show ((i : Int) < (L.length : Int)) by omega), if_pos (show (0 : Int) ≤ (i : Int) by omega), hr, w64 (show -1000000000000000 ≤ (i : Int) + 1 by omega) (by omega)]
    rw [List.drop_eq_getElem_cons hL, List.any_cons]
    by_cases h : (L[i].length : Int) > 30
    · simp only [if_pos h, decide_eq_true h, Bool.true_or]
      exact Ev.now _
    · simp only [if_neg h, decide_eq_false h, Bool.false_or]
      exact ih (i + 1) (by omega)
theorem many_ev (L : List (List Int)) (hB : L.length ≤ 1000) : Ev (fun k => kinkeeplaw06_many.f k L) (L.any fun l => decide ((l.length : Int) > 30)) := by
  unfold kinkeeplaw06_many.f
  have := many_l0_ev L hB L.length 0 (by omega)
  rw [List.drop_zero] at this
  exact this
theorem mul6_ev (p q : List F) (hp : p.length ≤ 500) (hq : q.length ≤ 500) : Ev (fun k => kinkeeplaw06_mul.f k (IL p) (IL q)) (IL (mulP p q)) := by
  have h1 := trim_len p
  have h2 := trim_len q
  unfold kinkeeplaw06_mul.f
  exact Ev.bind (pMul_ev p q (by omega) (by omega) (.inr (.inr (by omega)))) (Ev.now _)
end Go.Proofs.Ytjoiiclahcghbaa.PG
