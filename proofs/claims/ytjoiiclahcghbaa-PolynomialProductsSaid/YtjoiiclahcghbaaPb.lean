/- Bounds that the laws on polynomials use. -/
import Derived.Test.YtjoiiclahcghbaaPa
namespace Go.Proofs.Ytjoiiclahcghbaa.PG
open Go.RowKit Go.Proofs.YtjoiiclahcghbaaW.PrintWords Go.Proofs.Ytjoiiclahcghbaa.Gf
theorem mulP_le (p q : List F) : (mulP p q).length ≤ p.length + q.length := by
  have := trim_len_le (p := mulP p q) (n := p.length + q.length) (by
    rw [co_mulP]
    exact (Bel.cv' (co_bel p) (co_bel q)).mono (by omega))
  rwa [nrm_mulP] at this
theorem addP_le (p q : List F) : (addP p q).length ≤ max p.length q.length := by
  have := trim_len (addL p q)
  rwa [addL_length] at this
theorem derP_le (p : List F) : (derP p).length ≤ p.length := by
  have := trim_len (tab p.length (dr (co p)))
  rwa [tab_length] at this
theorem gcdGo_le (n : Nat) : ∀ p q : List F, Nrm q → (gcdGo n p q).length ≤ max p.length q.length := by
  induction n with
  | zero => intro p q _; rw [gcdGo]; omega
  | succ n ih =>
    intro p q hq
    rw [gcdGo]
    by_cases h : q = []
    · rw [if_pos h]; omega
    · rw [if_neg h]
      have h1 := divP_len p hq h
      have h2 := ih q (divP p q).2 (divP_ok p hq h).2.2.1
      omega
theorem gcdP_le (p q : List F) : (gcdP p q).length ≤ max p.length q.length := by
  have h1 := gcdGo_le ((trim q).length + 1) (trim p) (trim q) (nrm_trim q)
  have h2 := trim_len p
  have h3 := trim_len q
  rw [gcdP, monic_length]
  omega
theorem nrm_derP (p : List F) : Nrm (derP p) := nrm_trim _
theorem derP_trim (p : List F) : derP (trim p) = derP p := (nrm_derP _).ext (nrm_derP _) (by rw [co_derP, co_derP, co_trim])
theorem neg1 : (((0 : Nat) : Int) - 1 < 0) := by decide
theorem pos0 : ¬ (((0 : Nat) : Int) > 0) := by decide
theorem ff : ¬ (false = true) := by decide
end Go.Proofs.Ytjoiiclahcghbaa.PG
