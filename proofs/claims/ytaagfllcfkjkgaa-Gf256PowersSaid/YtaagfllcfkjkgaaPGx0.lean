-- Written by a program of this session (a patched copy of the kit's print.py, over given contracts proved by hand). Lean checks it.
import Derived.Test.YtaagfllcfkjkgaaProg
import Derived.Below
import Derived.Deep.Draws
import Derived.Deep.AppendLies
import Derived.Maps.AppendAt
import Derived.OwnWalk
import Derived.Laws.BytesArg
import Derived.Laws.MakeOwn
import Derived.Laws.OwnMore
import Derived.Deep.OwnRows
import Derived.Tactics
import Derived.Lib.ConvBytes
import Derived.Laws.Slices
import Derived.WalkKit
import Derived.KernelRfl
import Derived.RowKit3
import Derived.Deep.LoopGhost
import Derived.Deep.QuietTactic
import Derived.BigQuiet
import Derived.WideLaws
import Derived.Deep.DeepCutAuto
import Derived.Deep.CutBlock
import Derived.Deep.RegionHeld3
import Derived.Laws.Rows
import Derived.Lib.AppendStr
import Derived.ArgAppend
import Derived.Laws.IdiomCopy
import Derived.OrdersHeld
import Derived.Laws.BitsLemmas
import Derived.RowKit
import Derived.Test.YtaagfllcfkjkgaaWWords
import Derived.Test.YtaagfllcfkjkgaaWLast
import Derived.Test.YtaagfllcfkjkgaaWTab
import Derived.Test.YtaagfllcfkjkgaaWFour
import Derived.Test.YtaagfllcfkjkgaaWQPut
import Derived.Test.YtaagfllcfkjkgaaWApart
import Derived.Test.YtaagfllcfkjkgaaWArr
import Derived.Test.YtaagfllcfkjkgaaWZeros
import Derived.Test.YtaagfllcfkjkgaaWFoot
import Derived.Test.YtaagfllcfkjkgaaWKept
import Derived.Test.YtaagfllcfkjkgaaWShare
import Derived.Test.YtaagfllcfkjkgaaWN
import Derived.Test.YtaagfllcfkjkgaaWFootNe
import Derived.Test.YtaagfllcfkjkgaaWAt
import Derived.Test.YtaagfllcfkjkgaaWEqStruct
import Derived.Test.YtaagfllcfkjkgaaWRepsOne
import Derived.Test.YtaagfllcfkjkgaaWInv
import Derived.Test.YtaagfllcfkjkgaaWInvWords
import Derived.Test.YtaagfllcfkjkgaaWGuard
import Derived.Test.YtaagfllcfkjkgaaWNEv
import Derived.Test.YtaagfllcfkjkgaaWMore
namespace Go.Proofs.Ytaagfllcfkjkgaa.PG
open Go.RowKit Go.Proofs.YtaagfllcfkjkgaaW.PrintWords Go.Proofs.YtaagfllcfkjkgaaW.PrintLast Go.Proofs.YtaagfllcfkjkgaaW.PrintMore
attribute [local go_sem] max2_int min2_int max_two min_two max_three min_three max_four min_four   -- for this text's walks alone
set_option linter.unusedVariables false
set_option linter.unusedSimpArgs false



def errW : Option Int → Value
  | none => .nilIface
  | some c => .iface 0 (.int .i64 c)
theorem errW_none : errW none = .nilIface := rfl
theorem errW_some (c : Int) : errW (some c) = .iface 0 (.int .i64 c) := rfl

theorem info5 : (Try.prog.info? 5).map (fun i => (i.zero, i.size, i.bytes)) = some (some (.int .u8 0), 1, 1) := by kernel_rfl
-- the values' own types

end Go.Proofs.Ytaagfllcfkjkgaa.PG
