/- For every element other than 0 and all exponents from -1000000 to 1000000: exponents add, Exp inverts Log, the power by the order is 1 and the order divides 255. No condition. -/
import Derived.Test.YtaagfllcfkjkgaaPGx14
import Derived.Test.YtaagfllcfkjkgaaSa
import Derived.Test.YtaagfllcfkjkgaaSp
namespace Go.Proofs.Ytaagfllcfkjkgaa.Pure
open Go.RowKit Go.Proofs.Ytaagfllcfkjkgaa.PG Go.Proofs.YtaagfllcfkjkgaaW.PrintWords Go.Proofs.YtaagfllcfkjkgaaW.PrintLast Go.Proofs.Ytaagfllcfkjkgaa.Gf
theorem pow_red_add {a : F} (h : a ≠ 0#8) (m n : Int) : mul (pow a (red m)) (pow a (red n)) = pow a (red (m + n)) := by
  rw [← pow_add, ← pow_mod h (red m + red n)]
  congr 1
  unfold red
  omega
theorem red_nat (n : Nat) : red (n : Int) = n % 255 := by unfold red; omega
theorem Gf256Exponents : kinkeeplaw02_Gf256Exponents.Pure := by
  intro a0 m n h0 _ _
  obtain ⟨a, rfl⟩ := of_wf h0
  apply Ev.rounds
  unfold kinkeeplaw02_Gf256Exponents.f
  refine Ev.bind awake_ev ?_
  simp only [if_true]
  have htrue : Ev (fun k => kinkeeplaw02_Gf256Exponents.j0 k (I a) m n true) true := by
    refine Ev.step (fun k => kinkeeplaw02_Gf256Exponents.j0.eq_2 _ _ _ _ _) ?_
    simp only [if_true]
    exact Ev.now _
  by_cases ha : a = 0#8
  · subst ha
    simp only [I_zero, if_true] at htrue ⊢
    exact htrue
  · simp only [if_neg (show ¬ I a = 0 from fun h => ha (I_eq_zero.1 h))]
    by_cases h1 : m < -1000000
    · simp only [if_pos h1]; exact htrue
    · simp only [if_neg h1]
      by_cases h2 : m > 1000000
      · simp only [if_pos h2]; exact htrue
      · simp only [if_neg h2]
        by_cases h3 : n < -1000000
        · simp only [if_pos h3]; exact htrue
        · simp only [if_neg h3]
          by_cases h4 : n > 1000000
          · simp only [decide_eq_true h4]; exact htrue
          · have hw : wrap64 (m + n) = m + n := by unfold wrap64; omega
            have hl := lg_lt ha
            obtain ⟨o0, o1, o2, _⟩ := ord_dvd (lg a) hl
            refine Ev.step (fun k => kinkeeplaw02_Gf256Exponents.j0.eq_2 _ _ _ _ _) ?_
            simp only [decide_eq_false h4, if_neg (show ¬ (false = true) by decide), hw, Log_I ha, Option.bind_some]
            refine Ev.bind (Pow_ev ha) (Ev.bind (Pow_ev ha) (Ev.bind (Pow_ev ha) (Ev.bind (Order_ev ha) ?_)))
            simp only [if_true, if_neg (show ¬ ((ordN (lg a) : Nat) : Int) < 1 by omega), if_neg (show ¬ ((lg a : Nat) : Int) < 0 by omega), decide_eq_false (show ¬ ((lg a : Nat) : Int) > 254 by omega)]
            refine Ev.step (fun k => kinkeeplaw02_Gf256Exponents.j1.eq_2 _ _ _ _ _ _ _ _ _ _) ?_
            simp only [if_neg (show ¬ (false = true) by decide), hw]
            have he : Ev (fun k => gf256_Exp.f k ((lg a : Nat) : Int)) (I a) := by
              have := Exp_ev (n := ((lg a : Nat) : Int))
              rwa [red_nat, pow_mod (by decide), pow_lg ha] at this
            have hp : Ev (fun k => gf256_Pow.f k (I a) ((ordN (lg a) : Nat) : Int)) ((1 : Int), (0 : Int)) := by
              have := Pow_ev (n := ((ordN (lg a) : Nat) : Int)) ha
              rwa [red_nat, pow_mod ha, pow_ord ha, I_one] at this
            refine Ev.bind hp (Ev.bind (Mul_ev _ _) ?_)
            simp only [pow_red_add ha, if_true]
            refine Ev.bind he ?_
            simp only [if_true]
            refine Ev.bind Exp_ev (Ev.bind Exp_ev (Ev.bind (Mul_ev _ _) (Ev.bind Exp_ev ?_)))
            simp only [pow_red_add (show (2#8 : F) ≠ 0#8 by decide), if_true, if_neg (show ¬ ((ordN (lg a) : Nat) : Int) = 0 by omega)]
            rw [show ((255 : Int) % ((ordN (lg a) : Nat) : Int) == 0) = true by
              rw [beq_iff_eq]
              have : ((255 % ordN (lg a) : Nat) : Int) = 0 := by omega
              simpa using this]
            exact Ev.now _
end Go.Proofs.Ytaagfllcfkjkgaa.Pure
