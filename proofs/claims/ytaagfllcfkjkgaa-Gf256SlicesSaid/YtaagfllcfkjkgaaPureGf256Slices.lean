/- For all slices (up to 200 elements are examined) Scale, MulAdd and Dot return what the reference returns, or the errors. No condition. -/
import Derived.Test.YtaagfllcfkjkgaaPGx12
import Derived.Test.YtaagfllcfkjkgaaSa
import Derived.Test.YtaagfllcfkjkgaaSl
namespace Go.Proofs.Ytaagfllcfkjkgaa.Pure
open Go.RowKit Go.Proofs.Ytaagfllcfkjkgaa.PG Go.Proofs.YtaagfllcfkjkgaaW.PrintWords Go.Proofs.YtaagfllcfkjkgaaW.PrintLast Go.Proofs.Ytaagfllcfkjkgaa.Gf
theorem zero_ma (p : List F) (c : F) : maL (List.replicate p.length 0#8) p c = p.map fun x => mul x c := by
  induction p with
  | nil => rfl
  | cons a p ih =>
    unfold maL at ih ⊢
    rw [List.length_cons, List.replicate_succ, List.zipWith_cons_cons, ih, List.map_cons, BitVec.zero_xor]
theorem Gf256Slices : kinkeeplaw02_Gf256Slices.Pure := by
  intro l0 l1 a2 _ _ h0 _ _ h1 h2
  obtain ⟨p, rfl⟩ := of_wfs h0
  obtain ⟨q, rfl⟩ := of_wfs h1
  obtain ⟨c, rfl⟩ := of_wf h2
  apply Ev.rounds
  unfold kinkeeplaw02_Gf256Slices.f
  refine Ev.bind awake_ev ?_
  simp only [if_true, IL_length]
  by_cases hp : (p.length : Int) > 200
  · simp only [if_pos hp]
    refine Ev.step (fun k => kinkeeplaw02_Gf256Slices.j0.eq_2 _ _ _ _ _) ?_
    simp only [if_true]
    exact Ev.now _
  · simp only [if_neg hp]
    refine Ev.step (fun k => kinkeeplaw02_Gf256Slices.j0.eq_2 _ _ _ _ _) ?_
    by_cases hq : (q.length : Int) > 200
    · simp only [decide_eq_true hq, if_true]
      exact Ev.now _
    · simp only [decide_eq_false hq, if_neg (show ¬ (false = true) by decide)]
      have hs := Scale_I p c (by omega)
      have hz := rMulAdd_ev (p := List.replicate p.length 0#8) (q := p) c (by simp) (by simp; omega)
      rw [zero_ma, ← replicate_IL] at hz
      by_cases hl : p.length = q.length
      · refine Ev.bind (MulAdd_ev c hl (by omega)) (Ev.bind (Dot_ev hl (by omega)) ?_)
        simp only [IL_length, if_pos (show (0 : Int) ≤ (p.length : Int) by omega), Int.toNat_natCast, if_pos (show p.length ≤ 281474976710656 by omega), hs, Option.bind_some]
        refine Ev.bind hz ?_
        simp only [rSame_I, Option.bind_some, if_true, if_pos (show (p.length : Int) = (q.length : Int) by omega)]
        refine Ev.bind (rMulAdd_ev c hl (by omega)) ?_
        simp only [rSame_I, Option.bind_some, if_true]
        refine Ev.bind (rDot_ev hl (by omega)) ?_
        simp only [beq_self_eq_true]
        exact Ev.now _
      · refine Ev.bind (MulAdd_ne_ev c hl) (Ev.bind (Dot_ne_ev hl) ?_)
        simp only [IL_length, if_pos (show (0 : Int) ≤ (p.length : Int) by omega), Int.toNat_natCast, if_pos (show p.length ≤ 281474976710656 by omega), hs, Option.bind_some]
        refine Ev.bind hz ?_
        simp only [rSame_I, Option.bind_some, if_true, if_neg (show ¬ (p.length : Int) = (q.length : Int) by omega), List.length_nil, Int.natCast_zero, beq_self_eq_true]
        exact Ev.now _
end Go.Proofs.Ytaagfllcfkjkgaa.Pure
