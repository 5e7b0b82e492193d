/- The layers below TopSecretShares have their bodies. -/
import Derived.Test.YtadcoeinnomjlaaPGx46
namespace Go.Proofs.Ytadcoeinnomjlaa.PG
open Go.RowKit Go.Proofs.YtadcoeinnomjlaaW.PrintWords
set_option maxRecDepth 100000 in
theorem awake16_at : kinkeeptop_a16Awake.f 100 = some true := by decide +kernel
theorem awake16_ev : Ev (fun k => kinkeeptop_a16Awake.f k) true := Ev.of (fun k => kinkeeptop_a16Awake.mono k) awake16_at
end Go.Proofs.Ytadcoeinnomjlaa.PG
