/- The law's 'same' on equal lists. -/
import Derived.Test.YtjoiiclahcghbaaPGx25
import Derived.Test.YtjoiiclahcghbaaSg
namespace Go.Proofs.Ytjoiiclahcghbaa.PG
open Go.RowKit Go.Proofs.YtjoiiclahcghbaaW.PrintWords Go.Proofs.Ytjoiiclahcghbaa.Gf
theorem same_I (l : List Int) : kinkeeplaw06_same.f l l = some true := by
  unfold kinkeeplaw06_same.f kinkeepref06_Same.f
  rw [beq_self_eq_true]
  rfl
theorem same_ev (l : List Int) : Ev (fun _ => kinkeeplaw06_same.f l l) true := by
  rw [same_I]
  exact Ev.now _
end Go.Proofs.Ytjoiiclahcghbaa.PG
