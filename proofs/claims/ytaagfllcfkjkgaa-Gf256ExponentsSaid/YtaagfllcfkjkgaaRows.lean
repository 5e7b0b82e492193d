/-
  No cell of these rows narrows 'for every input' (looked for: loops, veiled, ifaces, maps, wideKeys, modest, calm, conditions, laid).
  DERIVED. THE GIVEN ROWS OF THIS SEAT. 8 by the template 'for every input the law returns true; each argument reads behind the call as it read before'; 0 by the template 'total and deterministic' (their statements: YtaagfllcfkjkgaaTotals.lean).
  GIVEN WITH THE SEED: the statements are not yours to turn. If you find one false, say at which input.
  Laid BY PROGRAM, IN A SANDBOX (cutbox-rows.mjs): the forced cells as the released guide's own fill.sh prints them over the translation e51517d86144876f… (all of the seat's roots in one cut). By AI agents, Wed Nov 11 2026. No macro, syntax, notation, axiom, sorry.
-/
import Derived.Test.YtaagfllcfkjkgaaChecked
import GoSem.Claim
import GoSem.ClaimJoined
import GoSem.ClaimMapViews
import Derived.JoinedTies
import Derived.KernelRfl
namespace Go.Proofs.Ytaagfllcfkjkgaa
/- THE CELL 'sum', in the pinned program and in every row, IS THE sha256 OF THE DUMP (.gsa) THAT YtaagfllcfkjkgaaProg.lean LOADS. Nothing in Lean hashes anything: it is a label: what it is worth is what the hold of that sum in a sandbox is worth. -/
noncomputable def Try.pinned : Pinned := { name := "ytaagfllcfkjkgaa", sum := "e51517d86144876f4e10ca8100ab71794637506cb0172bd354507b317ead2c4f", checked := Try.checked }
namespace Rows
def none {H : Type} : Left H := { results := [], args := [] }

/-- 'kinkeeplaw02.Gf256Doubles': WHATEVER THE INPUT: true; the input reads as it did. -/
def gf256DoublesSpec : ChangeSpec := { name := "gf256Doubles", fn := fun _ => fun
  | [d1, d2] => { results := [.lit (.bool true)], args := [d1, d2] }
  | _ => none }
def gf256DoublesRow : OpenClaim := { program := "ytaagfllcfkjkgaa", sum := "e51517d86144876f4e10ca8100ab71794637506cb0172bd354507b317ead2c4f", func := "kinkeep/kinkeeplaw02.Gf256Doubles", spec := "gf256Doubles", apart := false }
def Gf256DoublesSaid : Prop := gf256DoublesRow.holds Try.pinned (OpenSpec.ofChange gf256DoublesSpec)

/-- ITS FALSE NEIGHBOUR: 'it returns false'. Refute it at one input. -/
def gf256DoublesWrong : ChangeSpec := { name := "gf256Doubles", fn := fun _ => fun
  | [d1, d2] => { results := [.lit (.bool false)], args := [d1, d2] }
  | _ => none }
def Gf256DoublesWrongFalsely : Prop := gf256DoublesRow.holds Try.pinned (OpenSpec.ofChange gf256DoublesWrong)

/-- 'kinkeeplaw02.Gf256Squares': WHATEVER THE INPUT: true; the input reads as it did. -/
def gf256SquaresSpec : ChangeSpec := { name := "gf256Squares", fn := fun _ => fun
  | [d1, d2] => { results := [.lit (.bool true)], args := [d1, d2] }
  | _ => none }
def gf256SquaresRow : OpenClaim := { program := "ytaagfllcfkjkgaa", sum := "e51517d86144876f4e10ca8100ab71794637506cb0172bd354507b317ead2c4f", func := "kinkeep/kinkeeplaw02.Gf256Squares", spec := "gf256Squares", apart := false }
def Gf256SquaresSaid : Prop := gf256SquaresRow.holds Try.pinned (OpenSpec.ofChange gf256SquaresSpec)

/-- ITS FALSE NEIGHBOUR: 'it returns false'. Refute it at one input. -/
def gf256SquaresWrong : ChangeSpec := { name := "gf256Squares", fn := fun _ => fun
  | [d1, d2] => { results := [.lit (.bool false)], args := [d1, d2] }
  | _ => none }
def Gf256SquaresWrongFalsely : Prop := gf256SquaresRow.holds Try.pinned (OpenSpec.ofChange gf256SquaresWrong)

/-- 'kinkeeplaw02.Gf256Products': WHATEVER THE INPUT: true; the input reads as it did. -/
def gf256ProductsSpec : ChangeSpec := { name := "gf256Products", fn := fun _ => fun
  | [d1, d2] => { results := [.lit (.bool true)], args := [d1, d2] }
  | _ => none }
def gf256ProductsRow : OpenClaim := { program := "ytaagfllcfkjkgaa", sum := "e51517d86144876f4e10ca8100ab71794637506cb0172bd354507b317ead2c4f", func := "kinkeep/kinkeeplaw02.Gf256Products", spec := "gf256Products", apart := false }
def Gf256ProductsSaid : Prop := gf256ProductsRow.holds Try.pinned (OpenSpec.ofChange gf256ProductsSpec)

/-- ITS FALSE NEIGHBOUR: 'it returns false'. Refute it at one input. -/
def gf256ProductsWrong : ChangeSpec := { name := "gf256Products", fn := fun _ => fun
  | [d1, d2] => { results := [.lit (.bool false)], args := [d1, d2] }
  | _ => none }
def Gf256ProductsWrongFalsely : Prop := gf256ProductsRow.holds Try.pinned (OpenSpec.ofChange gf256ProductsWrong)

/-- 'kinkeeplaw02.Gf256Field': WHATEVER THE INPUT: true; the input reads as it did. -/
def gf256FieldSpec : ChangeSpec := { name := "gf256Field", fn := fun _ => fun
  | [d1, d2, d3] => { results := [.lit (.bool true)], args := [d1, d2, d3] }
  | _ => none }
def gf256FieldRow : OpenClaim := { program := "ytaagfllcfkjkgaa", sum := "e51517d86144876f4e10ca8100ab71794637506cb0172bd354507b317ead2c4f", func := "kinkeep/kinkeeplaw02.Gf256Field", spec := "gf256Field", apart := false }
def Gf256FieldSaid : Prop := gf256FieldRow.holds Try.pinned (OpenSpec.ofChange gf256FieldSpec)

/-- ITS FALSE NEIGHBOUR: 'it returns false'. Refute it at one input. -/
def gf256FieldWrong : ChangeSpec := { name := "gf256Field", fn := fun _ => fun
  | [d1, d2, d3] => { results := [.lit (.bool false)], args := [d1, d2, d3] }
  | _ => none }
def Gf256FieldWrongFalsely : Prop := gf256FieldRow.holds Try.pinned (OpenSpec.ofChange gf256FieldWrong)

/-- 'kinkeeplaw02.Gf256Slices': WHATEVER THE INPUT: true; the input reads as it did. -/
def gf256SlicesSpec : ChangeSpec := { name := "gf256Slices", fn := fun _ => fun
  | [d1, d2, d3] => { results := [.lit (.bool true)], args := [d1, d2, d3] }
  | _ => none }
def gf256SlicesRow : OpenClaim := { program := "ytaagfllcfkjkgaa", sum := "e51517d86144876f4e10ca8100ab71794637506cb0172bd354507b317ead2c4f", func := "kinkeep/kinkeeplaw02.Gf256Slices", spec := "gf256Slices", unfollowed := true, recurses := true, apart := false }
def Gf256SlicesSaid : Prop := gf256SlicesRow.holds Try.pinned (OpenSpec.ofChange gf256SlicesSpec)

/-- ITS FALSE NEIGHBOUR: 'it returns false'. Refute it at one input. -/
def gf256SlicesWrong : ChangeSpec := { name := "gf256Slices", fn := fun _ => fun
  | [d1, d2, d3] => { results := [.lit (.bool false)], args := [d1, d2, d3] }
  | _ => none }
def Gf256SlicesWrongFalsely : Prop := gf256SlicesRow.holds Try.pinned (OpenSpec.ofChange gf256SlicesWrong)

/-- 'kinkeeplaw02.Gf256Linear': WHATEVER THE INPUT: true; the input reads as it did. -/
def gf256LinearSpec : ChangeSpec := { name := "gf256Linear", fn := fun _ => fun
  | [d1, d2, d3, d4, d5] => { results := [.lit (.bool true)], args := [d1, d2, d3, d4, d5] }
  | _ => none }
def gf256LinearRow : OpenClaim := { program := "ytaagfllcfkjkgaa", sum := "e51517d86144876f4e10ca8100ab71794637506cb0172bd354507b317ead2c4f", func := "kinkeep/kinkeeplaw02.Gf256Linear", spec := "gf256Linear", unfollowed := true, recurses := true, apart := false }
def Gf256LinearSaid : Prop := gf256LinearRow.holds Try.pinned (OpenSpec.ofChange gf256LinearSpec)

/-- ITS FALSE NEIGHBOUR: 'it returns false'. Refute it at one input. -/
def gf256LinearWrong : ChangeSpec := { name := "gf256Linear", fn := fun _ => fun
  | [d1, d2, d3, d4, d5] => { results := [.lit (.bool false)], args := [d1, d2, d3, d4, d5] }
  | _ => none }
def Gf256LinearWrongFalsely : Prop := gf256LinearRow.holds Try.pinned (OpenSpec.ofChange gf256LinearWrong)

/-- 'kinkeeplaw02.Gf256Exponents': WHATEVER THE INPUT: true; the input reads as it did. -/
def gf256ExponentsSpec : ChangeSpec := { name := "gf256Exponents", fn := fun _ => fun
  | [d1, d2, d3] => { results := [.lit (.bool true)], args := [d1, d2, d3] }
  | _ => none }
def gf256ExponentsRow : OpenClaim := { program := "ytaagfllcfkjkgaa", sum := "e51517d86144876f4e10ca8100ab71794637506cb0172bd354507b317ead2c4f", func := "kinkeep/kinkeeplaw02.Gf256Exponents", spec := "gf256Exponents", apart := false }
def Gf256ExponentsSaid : Prop := gf256ExponentsRow.holds Try.pinned (OpenSpec.ofChange gf256ExponentsSpec)

/-- ITS FALSE NEIGHBOUR: 'it returns false'. Refute it at one input. -/
def gf256ExponentsWrong : ChangeSpec := { name := "gf256Exponents", fn := fun _ => fun
  | [d1, d2, d3] => { results := [.lit (.bool false)], args := [d1, d2, d3] }
  | _ => none }
def Gf256ExponentsWrongFalsely : Prop := gf256ExponentsRow.holds Try.pinned (OpenSpec.ofChange gf256ExponentsWrong)

/-- 'kinkeeplaw02.Gf256Powers': WHATEVER THE INPUT: true; the input reads as it did. -/
def gf256PowersSpec : ChangeSpec := { name := "gf256Powers", fn := fun _ => fun
  | [d1, d2] => { results := [.lit (.bool true)], args := [d1, d2] }
  | _ => none }
def gf256PowersRow : OpenClaim := { program := "ytaagfllcfkjkgaa", sum := "e51517d86144876f4e10ca8100ab71794637506cb0172bd354507b317ead2c4f", func := "kinkeep/kinkeeplaw02.Gf256Powers", spec := "gf256Powers", apart := false }
def Gf256PowersSaid : Prop := gf256PowersRow.holds Try.pinned (OpenSpec.ofChange gf256PowersSpec)

/-- ITS FALSE NEIGHBOUR: 'it returns false'. Refute it at one input. -/
def gf256PowersWrong : ChangeSpec := { name := "gf256Powers", fn := fun _ => fun
  | [d1, d2] => { results := [.lit (.bool false)], args := [d1, d2] }
  | _ => none }
def Gf256PowersWrongFalsely : Prop := gf256PowersRow.holds Try.pinned (OpenSpec.ofChange gf256PowersWrong)

/- THE SECOND FORM. 'bulk': how many values and letters a reading holds, each counted each time it is reached (what is shared counts as often as it is met; a slice's spare places count too). A statement '..UptoSaid' is the law's where the arguments, and the package variables that the reading takes, are together of bulk at most 1048576: NARROWER than '..Said'. Prove '..Said' where nothing that the law and all that it calls make is longer than what came in: it says more and counts as full. Else prove '..UptoSaid'. A law counts once. -/
mutual
def uptoBulk {H : Type} : DataW H → Nat
  | .lit (.string bytes) => bytes.length + 1
  | .lit _ => 1
  | .nil => 1
  | .ptr d => uptoBulk d + 1
  | .slice elems spare => uptoBulkAll elems + uptoBulkAll spare + 1
  | .agg parts => uptoBulkAll parts + 1
  | .iface _ d => uptoBulk d + 1
  | .map entries => uptoBulkEntries entries + 1
  | .held _ => 1
def uptoBulkAll {H : Type} : List (DataW H) → Nat
  | [] => 0
  | d :: r => uptoBulk d + uptoBulkAll r
def uptoBulkEntries {H : Type} : List (Lit × DataW H) → Nat
  | [] => 0
  | x :: r => uptoBulkEntry x + uptoBulkEntries r
def uptoBulkEntry {H : Type} : Lit × DataW H → Nat
  | (.string bytes, d) => bytes.length + uptoBulk d + 1
  | (_, d) => uptoBulk d + 1
 end
def uptoSmall : (H : Type) → List (DataW H) → Bool := fun _ ds => decide (uptoBulkAll ds ≤ 1048576)
def OpenSpec.upto (s : _root_.Go.ChangeSpec) : _root_.Go.OpenSpec := { _root_.Go.OpenSpec.ofChange s with cond := some uptoSmall }

/-- 'kinkeeplaw02.Gf256Doubles', WHERE WHAT IT READS IS OF BULK AT MOST 1048576: true; the input reads as it did. -/
def gf256DoublesUptoRow : OpenClaim := { program := "ytaagfllcfkjkgaa", sum := "e51517d86144876f4e10ca8100ab71794637506cb0172bd354507b317ead2c4f", func := "kinkeep/kinkeeplaw02.Gf256Doubles", spec := "gf256Doubles", apart := false, narrowed := true }
def Gf256DoublesUptoSaid : Prop := gf256DoublesUptoRow.holds Try.pinned (OpenSpec.upto gf256DoublesSpec)

/-- 'kinkeeplaw02.Gf256Squares', WHERE WHAT IT READS IS OF BULK AT MOST 1048576: true; the input reads as it did. -/
def gf256SquaresUptoRow : OpenClaim := { program := "ytaagfllcfkjkgaa", sum := "e51517d86144876f4e10ca8100ab71794637506cb0172bd354507b317ead2c4f", func := "kinkeep/kinkeeplaw02.Gf256Squares", spec := "gf256Squares", apart := false, narrowed := true }
def Gf256SquaresUptoSaid : Prop := gf256SquaresUptoRow.holds Try.pinned (OpenSpec.upto gf256SquaresSpec)

/-- 'kinkeeplaw02.Gf256Products', WHERE WHAT IT READS IS OF BULK AT MOST 1048576: true; the input reads as it did. -/
def gf256ProductsUptoRow : OpenClaim := { program := "ytaagfllcfkjkgaa", sum := "e51517d86144876f4e10ca8100ab71794637506cb0172bd354507b317ead2c4f", func := "kinkeep/kinkeeplaw02.Gf256Products", spec := "gf256Products", apart := false, narrowed := true }
def Gf256ProductsUptoSaid : Prop := gf256ProductsUptoRow.holds Try.pinned (OpenSpec.upto gf256ProductsSpec)

/-- 'kinkeeplaw02.Gf256Field', WHERE WHAT IT READS IS OF BULK AT MOST 1048576: true; the input reads as it did. -/
def gf256FieldUptoRow : OpenClaim := { program := "ytaagfllcfkjkgaa", sum := "e51517d86144876f4e10ca8100ab71794637506cb0172bd354507b317ead2c4f", func := "kinkeep/kinkeeplaw02.Gf256Field", spec := "gf256Field", apart := false, narrowed := true }
def Gf256FieldUptoSaid : Prop := gf256FieldUptoRow.holds Try.pinned (OpenSpec.upto gf256FieldSpec)

/-- 'kinkeeplaw02.Gf256Slices', WHERE WHAT IT READS IS OF BULK AT MOST 1048576: true; the input reads as it did. -/
def gf256SlicesUptoRow : OpenClaim := { program := "ytaagfllcfkjkgaa", sum := "e51517d86144876f4e10ca8100ab71794637506cb0172bd354507b317ead2c4f", func := "kinkeep/kinkeeplaw02.Gf256Slices", spec := "gf256Slices", unfollowed := true, recurses := true, apart := false, narrowed := true }
def Gf256SlicesUptoSaid : Prop := gf256SlicesUptoRow.holds Try.pinned (OpenSpec.upto gf256SlicesSpec)

/-- 'kinkeeplaw02.Gf256Linear', WHERE WHAT IT READS IS OF BULK AT MOST 1048576: true; the input reads as it did. -/
def gf256LinearUptoRow : OpenClaim := { program := "ytaagfllcfkjkgaa", sum := "e51517d86144876f4e10ca8100ab71794637506cb0172bd354507b317ead2c4f", func := "kinkeep/kinkeeplaw02.Gf256Linear", spec := "gf256Linear", unfollowed := true, recurses := true, apart := false, narrowed := true }
def Gf256LinearUptoSaid : Prop := gf256LinearUptoRow.holds Try.pinned (OpenSpec.upto gf256LinearSpec)

/-- 'kinkeeplaw02.Gf256Exponents', WHERE WHAT IT READS IS OF BULK AT MOST 1048576: true; the input reads as it did. -/
def gf256ExponentsUptoRow : OpenClaim := { program := "ytaagfllcfkjkgaa", sum := "e51517d86144876f4e10ca8100ab71794637506cb0172bd354507b317ead2c4f", func := "kinkeep/kinkeeplaw02.Gf256Exponents", spec := "gf256Exponents", apart := false, narrowed := true }
def Gf256ExponentsUptoSaid : Prop := gf256ExponentsUptoRow.holds Try.pinned (OpenSpec.upto gf256ExponentsSpec)

/-- 'kinkeeplaw02.Gf256Powers', WHERE WHAT IT READS IS OF BULK AT MOST 1048576: true; the input reads as it did. -/
def gf256PowersUptoRow : OpenClaim := { program := "ytaagfllcfkjkgaa", sum := "e51517d86144876f4e10ca8100ab71794637506cb0172bd354507b317ead2c4f", func := "kinkeep/kinkeeplaw02.Gf256Powers", spec := "gf256Powers", apart := false, narrowed := true }
def Gf256PowersUptoSaid : Prop := gf256PowersUptoRow.holds Try.pinned (OpenSpec.upto gf256PowersSpec)

end Rows
end Go.Proofs.Ytaagfllcfkjkgaa
