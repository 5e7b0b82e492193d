/- The examples of layer 2 hold: awake answers true. -/
import Derived.Test.YtaagfllcfkjkgaaPGx7
import Derived.Test.YtaagfllcfkjkgaaSg
namespace Go.Proofs.Ytaagfllcfkjkgaa.PG
open Go.RowKit Go.Proofs.YtaagfllcfkjkgaaW.PrintWords Go.Proofs.Ytaagfllcfkjkgaa.Gf
theorem awake_ev : Ev (fun k => kinkeeplaw02_awake.f k) true := by
  have h1 : Ev (fun k => gf256_Inv.f k 2) ((142 : Int), (0 : Int)) := by
    have := Inv_ev (a := 2#8) (by decide)
    rwa [show I (inv 2#8) = 142 by decide +kernel, show I 2#8 = 2 from rfl] at this
  have h2 : Ev (fun k => gf256_Pow.f k 0 (-1)) ((0 : Int), (1 : Int)) := Pow0_ev
  have h3 : Ev (fun k => gf256_Dot.f k ([2, 3] : List Int) ([128, 3] : List Int)) ((24 : Int), (0 : Int)) := by
    have := Dot_ev (p := [2#8, 3#8]) (q := [128#8, 3#8]) rfl (by decide)
    rwa [show I (dotL [2#8, 3#8] [128#8, 3#8]) = 24 by decide +kernel, show IL [2#8, 3#8] = [2, 3] from rfl, show IL [128#8, 3#8] = [128, 3] from rfl] at this
  have h4 : Ev (fun k => gf256_Mul.f k 2 128) (29 : Int) := by
    have := Mul_ev 2#8 128#8
    rwa [show I (mul 2#8 128#8) = 29 by decide +kernel, show I 2#8 = 2 from rfl, show I 128#8 = 128 from rfl] at this
  have h5 : Ev (fun k => gf256_Mul.f k 3 3) (5 : Int) := by
    have := Mul_ev 3#8 3#8
    rwa [show I (mul 3#8 3#8) = 5 by decide +kernel, show I 3#8 = 3 from rfl] at this
  have h6 : Ev (fun k => gf256_Exp.f k (-1)) (142 : Int) := by
    have := Exp_ev (n := -1)
    rwa [show I (pow 2#8 (red (-1))) = 142 by decide +kernel] at this
  unfold kinkeeplaw02_awake.f
  refine Ev.bind h1 (Ev.bind h2 (Ev.bind h3 (Ev.bind h4 ?_)))
  simp only [if_true]
  refine Ev.bind h5 ?_
  simp only [if_true]
  refine Ev.bind h6 ?_
  simp only [if_true]
  exact Ev.now _
end Go.Proofs.Ytaagfllcfkjkgaa.PG
