/-
  No cell of these rows narrows 'for every input' (looked for: loops, veiled, ifaces, maps, wideKeys, modest, calm, conditions, laid).
  DERIVED. THE GIVEN ROWS OF THIS SEAT. 12 by the template 'for every input the law returns true; each argument reads behind the call as it read before'; 0 by the template 'total and deterministic' (their statements: YtohneiapknlpgaaTotals.lean).
  GIVEN WITH THE SEED: the statements are not yours to turn. If you find one false, say at which input.
  Laid BY PROGRAM, IN A SANDBOX (cutbox-rows.mjs): the forced cells as the released guide's own fill.sh prints them over the translation 8933b6c6fd8c3f29… (all of the seat's roots in one cut). By AI agents, Wed Nov 11 2026. No macro, syntax, notation, axiom, sorry.
-/
import Derived.Test.YtohneiapknlpgaaChecked
import GoSem.Claim
import GoSem.ClaimJoined
import GoSem.ClaimMapViews
import Derived.JoinedTies
import Derived.KernelRfl
namespace Go.Proofs.Ytohneiapknlpgaa
/- THE CELL 'sum', in the pinned program and in every row, IS THE sha256 OF THE DUMP (.gsa) THAT YtohneiapknlpgaaProg.lean LOADS. Nothing in Lean hashes anything: it is a label: what it is worth is what the hold of that sum in a sandbox is worth. -/
noncomputable def Try.pinned : Pinned := { name := "ytohneiapknlpgaa", sum := "8933b6c6fd8c3f2925dc90ef742ecfbb0fdd9f15a269ba64257d5ed565798ed5", checked := Try.checked }
namespace Rows
def none {H : Type} : Left H := { results := [], args := [] }

/-- 'laws.FnExactDot': WHATEVER THE INPUT: true; the input reads as it did. -/
def fnExactDotSpec : ChangeSpec := { name := "fnExactDot", fn := fun _ => fun
  | [d1, d2, d3] => { results := [.lit (.bool true)], args := [d1, d2, d3] }
  | _ => none }
def fnExactDotRow : OpenClaim := { program := "ytohneiapknlpgaa", sum := "8933b6c6fd8c3f2925dc90ef742ecfbb0fdd9f15a269ba64257d5ed565798ed5", func := "loop.example/g00710/laws.FnExactDot", spec := "fnExactDot", apart := false }
def FnExactDotSaid : Prop := fnExactDotRow.holds Try.pinned (OpenSpec.ofChange fnExactDotSpec)

/-- ITS FALSE NEIGHBOUR: 'it returns false'. Refute it at one input. -/
def fnExactDotWrong : ChangeSpec := { name := "fnExactDot", fn := fun _ => fun
  | [d1, d2, d3] => { results := [.lit (.bool false)], args := [d1, d2, d3] }
  | _ => none }
def FnExactDotWrongFalsely : Prop := fnExactDotRow.holds Try.pinned (OpenSpec.ofChange fnExactDotWrong)

/-- 'laws.FnExactPower': WHATEVER THE INPUT: true; the input reads as it did. -/
def fnExactPowerSpec : ChangeSpec := { name := "fnExactPower", fn := fun _ => fun
  | [d1, d2, d3] => { results := [.lit (.bool true)], args := [d1, d2, d3] }
  | _ => none }
def fnExactPowerRow : OpenClaim := { program := "ytohneiapknlpgaa", sum := "8933b6c6fd8c3f2925dc90ef742ecfbb0fdd9f15a269ba64257d5ed565798ed5", func := "loop.example/g00710/laws.FnExactPower", spec := "fnExactPower", apart := false }
def FnExactPowerSaid : Prop := fnExactPowerRow.holds Try.pinned (OpenSpec.ofChange fnExactPowerSpec)

/-- ITS FALSE NEIGHBOUR: 'it returns false'. Refute it at one input. -/
def fnExactPowerWrong : ChangeSpec := { name := "fnExactPower", fn := fun _ => fun
  | [d1, d2, d3] => { results := [.lit (.bool false)], args := [d1, d2, d3] }
  | _ => none }
def FnExactPowerWrongFalsely : Prop := fnExactPowerRow.holds Try.pinned (OpenSpec.ofChange fnExactPowerWrong)

/-- 'laws.FnExactPermute': WHATEVER THE INPUT: true; the input reads as it did. -/
def fnExactPermuteSpec : ChangeSpec := { name := "fnExactPermute", fn := fun _ => fun
  | [d] => { results := [.lit (.bool true)], args := [d] }
  | _ => none }
def fnExactPermuteRow : OpenClaim := { program := "ytohneiapknlpgaa", sum := "8933b6c6fd8c3f2925dc90ef742ecfbb0fdd9f15a269ba64257d5ed565798ed5", func := "loop.example/g00710/laws.FnExactPermute", spec := "fnExactPermute", apart := false }
def FnExactPermuteSaid : Prop := fnExactPermuteRow.holds Try.pinned (OpenSpec.ofChange fnExactPermuteSpec)

/-- ITS FALSE NEIGHBOUR: 'it returns false'. Refute it at one input. -/
def fnExactPermuteWrong : ChangeSpec := { name := "fnExactPermute", fn := fun _ => fun
  | [d] => { results := [.lit (.bool false)], args := [d] }
  | _ => none }
def FnExactPermuteWrongFalsely : Prop := fnExactPermuteRow.holds Try.pinned (OpenSpec.ofChange fnExactPermuteWrong)

/-- 'laws.FnExactRootOf': WHATEVER THE INPUT: true; the input reads as it did. -/
def fnExactRootOfSpec : ChangeSpec := { name := "fnExactRootOf", fn := fun _ => fun
  | [d1, d2] => { results := [.lit (.bool true)], args := [d1, d2] }
  | _ => none }
def fnExactRootOfRow : OpenClaim := { program := "ytohneiapknlpgaa", sum := "8933b6c6fd8c3f2925dc90ef742ecfbb0fdd9f15a269ba64257d5ed565798ed5", func := "loop.example/g00710/laws.FnExactRootOf", spec := "fnExactRootOf", apart := false }
def FnExactRootOfSaid : Prop := fnExactRootOfRow.holds Try.pinned (OpenSpec.ofChange fnExactRootOfSpec)

/-- ITS FALSE NEIGHBOUR: 'it returns false'. Refute it at one input. -/
def fnExactRootOfWrong : ChangeSpec := { name := "fnExactRootOf", fn := fun _ => fun
  | [d1, d2] => { results := [.lit (.bool false)], args := [d1, d2] }
  | _ => none }
def FnExactRootOfWrongFalsely : Prop := fnExactRootOfRow.holds Try.pinned (OpenSpec.ofChange fnExactRootOfWrong)

/-- 'laws.FnExactRootSum': WHATEVER THE INPUT: true; the input reads as it did. -/
def fnExactRootSumSpec : ChangeSpec := { name := "fnExactRootSum", fn := fun _ => fun
  | [d1, d2, d3] => { results := [.lit (.bool true)], args := [d1, d2, d3] }
  | _ => none }
def fnExactRootSumRow : OpenClaim := { program := "ytohneiapknlpgaa", sum := "8933b6c6fd8c3f2925dc90ef742ecfbb0fdd9f15a269ba64257d5ed565798ed5", func := "loop.example/g00710/laws.FnExactRootSum", spec := "fnExactRootSum", apart := false }
def FnExactRootSumSaid : Prop := fnExactRootSumRow.holds Try.pinned (OpenSpec.ofChange fnExactRootSumSpec)

/-- ITS FALSE NEIGHBOUR: 'it returns false'. Refute it at one input. -/
def fnExactRootSumWrong : ChangeSpec := { name := "fnExactRootSum", fn := fun _ => fun
  | [d1, d2, d3] => { results := [.lit (.bool false)], args := [d1, d2, d3] }
  | _ => none }
def FnExactRootSumWrongFalsely : Prop := fnExactRootSumRow.holds Try.pinned (OpenSpec.ofChange fnExactRootSumWrong)

/-- 'laws.FnExactOrder': WHATEVER THE INPUT: true; the input reads as it did. -/
def fnExactOrderSpec : ChangeSpec := { name := "fnExactOrder", fn := fun _ => fun
  | [d1, d2] => { results := [.lit (.bool true)], args := [d1, d2] }
  | _ => none }
def fnExactOrderRow : OpenClaim := { program := "ytohneiapknlpgaa", sum := "8933b6c6fd8c3f2925dc90ef742ecfbb0fdd9f15a269ba64257d5ed565798ed5", func := "loop.example/g00710/laws.FnExactOrder", spec := "fnExactOrder", apart := false }
def FnExactOrderSaid : Prop := fnExactOrderRow.holds Try.pinned (OpenSpec.ofChange fnExactOrderSpec)

/-- ITS FALSE NEIGHBOUR: 'it returns false'. Refute it at one input. -/
def fnExactOrderWrong : ChangeSpec := { name := "fnExactOrder", fn := fun _ => fun
  | [d1, d2] => { results := [.lit (.bool false)], args := [d1, d2] }
  | _ => none }
def FnExactOrderWrongFalsely : Prop := fnExactOrderRow.holds Try.pinned (OpenSpec.ofChange fnExactOrderWrong)

/-- 'laws.FnExactBatchInverse': WHATEVER THE INPUT: true; the input reads as it did. -/
def fnExactBatchInverseSpec : ChangeSpec := { name := "fnExactBatchInverse", fn := fun _ => fun
  | [d1, d2] => { results := [.lit (.bool true)], args := [d1, d2] }
  | _ => none }
def fnExactBatchInverseRow : OpenClaim := { program := "ytohneiapknlpgaa", sum := "8933b6c6fd8c3f2925dc90ef742ecfbb0fdd9f15a269ba64257d5ed565798ed5", func := "loop.example/g00710/laws.FnExactBatchInverse", spec := "fnExactBatchInverse", apart := false }
def FnExactBatchInverseSaid : Prop := fnExactBatchInverseRow.holds Try.pinned (OpenSpec.ofChange fnExactBatchInverseSpec)

/-- ITS FALSE NEIGHBOUR: 'it returns false'. Refute it at one input. -/
def fnExactBatchInverseWrong : ChangeSpec := { name := "fnExactBatchInverse", fn := fun _ => fun
  | [d1, d2] => { results := [.lit (.bool false)], args := [d1, d2] }
  | _ => none }
def FnExactBatchInverseWrongFalsely : Prop := fnExactBatchInverseRow.holds Try.pinned (OpenSpec.ofChange fnExactBatchInverseWrong)

/-- 'laws.FnExactIsRoot': WHATEVER THE INPUT: true; the input reads as it did. -/
def fnExactIsRootSpec : ChangeSpec := { name := "fnExactIsRoot", fn := fun _ => fun
  | [d1, d2, d3] => { results := [.lit (.bool true)], args := [d1, d2, d3] }
  | _ => none }
def fnExactIsRootRow : OpenClaim := { program := "ytohneiapknlpgaa", sum := "8933b6c6fd8c3f2925dc90ef742ecfbb0fdd9f15a269ba64257d5ed565798ed5", func := "loop.example/g00710/laws.FnExactIsRoot", spec := "fnExactIsRoot", apart := false }
def FnExactIsRootSaid : Prop := fnExactIsRootRow.holds Try.pinned (OpenSpec.ofChange fnExactIsRootSpec)

/-- ITS FALSE NEIGHBOUR: 'it returns false'. Refute it at one input. -/
def fnExactIsRootWrong : ChangeSpec := { name := "fnExactIsRoot", fn := fun _ => fun
  | [d1, d2, d3] => { results := [.lit (.bool false)], args := [d1, d2, d3] }
  | _ => none }
def FnExactIsRootWrongFalsely : Prop := fnExactIsRootRow.holds Try.pinned (OpenSpec.ofChange fnExactIsRootWrong)

/-- 'laws.FnExactRoots': WHATEVER THE INPUT: true; the input reads as it did. -/
def fnExactRootsSpec : ChangeSpec := { name := "fnExactRoots", fn := fun _ => fun
  | [d1, d2] => { results := [.lit (.bool true)], args := [d1, d2] }
  | _ => none }
def fnExactRootsRow : OpenClaim := { program := "ytohneiapknlpgaa", sum := "8933b6c6fd8c3f2925dc90ef742ecfbb0fdd9f15a269ba64257d5ed565798ed5", func := "loop.example/g00710/laws.FnExactRoots", spec := "fnExactRoots", apart := false }
def FnExactRootsSaid : Prop := fnExactRootsRow.holds Try.pinned (OpenSpec.ofChange fnExactRootsSpec)

/-- ITS FALSE NEIGHBOUR: 'it returns false'. Refute it at one input. -/
def fnExactRootsWrong : ChangeSpec := { name := "fnExactRoots", fn := fun _ => fun
  | [d1, d2] => { results := [.lit (.bool false)], args := [d1, d2] }
  | _ => none }
def FnExactRootsWrongFalsely : Prop := fnExactRootsRow.holds Try.pinned (OpenSpec.ofChange fnExactRootsWrong)

/-- 'laws.FnExactSquareRoot': WHATEVER THE INPUT: true; the input reads as it did. -/
def fnExactSquareRootSpec : ChangeSpec := { name := "fnExactSquareRoot", fn := fun _ => fun
  | [d1, d2] => { results := [.lit (.bool true)], args := [d1, d2] }
  | _ => none }
def fnExactSquareRootRow : OpenClaim := { program := "ytohneiapknlpgaa", sum := "8933b6c6fd8c3f2925dc90ef742ecfbb0fdd9f15a269ba64257d5ed565798ed5", func := "loop.example/g00710/laws.FnExactSquareRoot", spec := "fnExactSquareRoot", apart := false }
def FnExactSquareRootSaid : Prop := fnExactSquareRootRow.holds Try.pinned (OpenSpec.ofChange fnExactSquareRootSpec)

/-- ITS FALSE NEIGHBOUR: 'it returns false'. Refute it at one input. -/
def fnExactSquareRootWrong : ChangeSpec := { name := "fnExactSquareRoot", fn := fun _ => fun
  | [d1, d2] => { results := [.lit (.bool false)], args := [d1, d2] }
  | _ => none }
def FnExactSquareRootWrongFalsely : Prop := fnExactSquareRootRow.holds Try.pinned (OpenSpec.ofChange fnExactSquareRootWrong)

/-- 'laws.FnPermuteTwice': WHATEVER THE INPUT: true; the input reads as it did. -/
def fnPermuteTwiceSpec : ChangeSpec := { name := "fnPermuteTwice", fn := fun _ => fun
  | [d] => { results := [.lit (.bool true)], args := [d] }
  | _ => none }
def fnPermuteTwiceRow : OpenClaim := { program := "ytohneiapknlpgaa", sum := "8933b6c6fd8c3f2925dc90ef742ecfbb0fdd9f15a269ba64257d5ed565798ed5", func := "loop.example/g00710/laws.FnPermuteTwice", spec := "fnPermuteTwice", apart := false }
def FnPermuteTwiceSaid : Prop := fnPermuteTwiceRow.holds Try.pinned (OpenSpec.ofChange fnPermuteTwiceSpec)

/-- ITS FALSE NEIGHBOUR: 'it returns false'. Refute it at one input. -/
def fnPermuteTwiceWrong : ChangeSpec := { name := "fnPermuteTwice", fn := fun _ => fun
  | [d] => { results := [.lit (.bool false)], args := [d] }
  | _ => none }
def FnPermuteTwiceWrongFalsely : Prop := fnPermuteTwiceRow.holds Try.pinned (OpenSpec.ofChange fnPermuteTwiceWrong)

/-- 'laws.FnSquares': WHATEVER THE INPUT: true; the input reads as it did. -/
def fnSquaresSpec : ChangeSpec := { name := "fnSquares", fn := fun _ => fun
  | [d] => { results := [.lit (.bool true)], args := [d] }
  | _ => none }
def fnSquaresRow : OpenClaim := { program := "ytohneiapknlpgaa", sum := "8933b6c6fd8c3f2925dc90ef742ecfbb0fdd9f15a269ba64257d5ed565798ed5", func := "loop.example/g00710/laws.FnSquares", spec := "fnSquares", apart := false }
def FnSquaresSaid : Prop := fnSquaresRow.holds Try.pinned (OpenSpec.ofChange fnSquaresSpec)

/-- ITS FALSE NEIGHBOUR: 'it returns false'. Refute it at one input. -/
def fnSquaresWrong : ChangeSpec := { name := "fnSquares", fn := fun _ => fun
  | [d] => { results := [.lit (.bool false)], args := [d] }
  | _ => none }
def FnSquaresWrongFalsely : Prop := fnSquaresRow.holds Try.pinned (OpenSpec.ofChange fnSquaresWrong)

/- THE SECOND FORM. 'bulk': how many values and letters a reading holds, each counted each time it is reached (what is shared counts as often as it is met; a slice's spare places count too). A statement '..UptoSaid' is the law's where the arguments, and the package variables that the reading takes, are together of bulk at most 1048576: NARROWER than '..Said'. Prove '..Said' where nothing that the law and all that it calls make is longer than what came in: it says more and counts as full. Else prove '..UptoSaid'. A law counts once. -/
mutual
def uptoBulk {H : Type} : DataW H → Nat
  | .lit (.string bytes) => bytes.length + 1
  | .lit _ => 1
  | .nil => 1
  | .ptr d => uptoBulk d + 1
  | .slice elems spare => uptoBulkAll elems + uptoBulkAll spare + 1
  | .agg parts => uptoBulkAll parts + 1
  | .iface _ d => uptoBulk d + 1
  | .map entries => uptoBulkEntries entries + 1
  | .held _ => 1
def uptoBulkAll {H : Type} : List (DataW H) → Nat
  | [] => 0
  | d :: r => uptoBulk d + uptoBulkAll r
def uptoBulkEntries {H : Type} : List (Lit × DataW H) → Nat
  | [] => 0
  | x :: r => uptoBulkEntry x + uptoBulkEntries r
def uptoBulkEntry {H : Type} : Lit × DataW H → Nat
  | (.string bytes, d) => bytes.length + uptoBulk d + 1
  | (_, d) => uptoBulk d + 1
 end
def uptoSmall : (H : Type) → List (DataW H) → Bool := fun _ ds => decide (uptoBulkAll ds ≤ 1048576)
def OpenSpec.upto (s : _root_.Go.ChangeSpec) : _root_.Go.OpenSpec := { _root_.Go.OpenSpec.ofChange s with cond := some uptoSmall }

/-- 'laws.FnExactDot', WHERE WHAT IT READS IS OF BULK AT MOST 1048576: true; the input reads as it did. -/
def fnExactDotUptoRow : OpenClaim := { program := "ytohneiapknlpgaa", sum := "8933b6c6fd8c3f2925dc90ef742ecfbb0fdd9f15a269ba64257d5ed565798ed5", func := "loop.example/g00710/laws.FnExactDot", spec := "fnExactDot", apart := false, narrowed := true }
def FnExactDotUptoSaid : Prop := fnExactDotUptoRow.holds Try.pinned (OpenSpec.upto fnExactDotSpec)

/-- 'laws.FnExactPower', WHERE WHAT IT READS IS OF BULK AT MOST 1048576: true; the input reads as it did. -/
def fnExactPowerUptoRow : OpenClaim := { program := "ytohneiapknlpgaa", sum := "8933b6c6fd8c3f2925dc90ef742ecfbb0fdd9f15a269ba64257d5ed565798ed5", func := "loop.example/g00710/laws.FnExactPower", spec := "fnExactPower", apart := false, narrowed := true }
def FnExactPowerUptoSaid : Prop := fnExactPowerUptoRow.holds Try.pinned (OpenSpec.upto fnExactPowerSpec)

/-- 'laws.FnExactPermute', WHERE WHAT IT READS IS OF BULK AT MOST 1048576: true; the input reads as it did. -/
def fnExactPermuteUptoRow : OpenClaim := { program := "ytohneiapknlpgaa", sum := "8933b6c6fd8c3f2925dc90ef742ecfbb0fdd9f15a269ba64257d5ed565798ed5", func := "loop.example/g00710/laws.FnExactPermute", spec := "fnExactPermute", apart := false, narrowed := true }
def FnExactPermuteUptoSaid : Prop := fnExactPermuteUptoRow.holds Try.pinned (OpenSpec.upto fnExactPermuteSpec)

/-- 'laws.FnExactRootOf', WHERE WHAT IT READS IS OF BULK AT MOST 1048576: true; the input reads as it did. -/
def fnExactRootOfUptoRow : OpenClaim := { program := "ytohneiapknlpgaa", sum := "8933b6c6fd8c3f2925dc90ef742ecfbb0fdd9f15a269ba64257d5ed565798ed5", func := "loop.example/g00710/laws.FnExactRootOf", spec := "fnExactRootOf", apart := false, narrowed := true }
def FnExactRootOfUptoSaid : Prop := fnExactRootOfUptoRow.holds Try.pinned (OpenSpec.upto fnExactRootOfSpec)

/-- 'laws.FnExactRootSum', WHERE WHAT IT READS IS OF BULK AT MOST 1048576: true; the input reads as it did. -/
def fnExactRootSumUptoRow : OpenClaim := { program := "ytohneiapknlpgaa", sum := "8933b6c6fd8c3f2925dc90ef742ecfbb0fdd9f15a269ba64257d5ed565798ed5", func := "loop.example/g00710/laws.FnExactRootSum", spec := "fnExactRootSum", apart := false, narrowed := true }
def FnExactRootSumUptoSaid : Prop := fnExactRootSumUptoRow.holds Try.pinned (OpenSpec.upto fnExactRootSumSpec)

/-- 'laws.FnExactOrder', WHERE WHAT IT READS IS OF BULK AT MOST 1048576: true; the input reads as it did. -/
def fnExactOrderUptoRow : OpenClaim := { program := "ytohneiapknlpgaa", sum := "8933b6c6fd8c3f2925dc90ef742ecfbb0fdd9f15a269ba64257d5ed565798ed5", func := "loop.example/g00710/laws.FnExactOrder", spec := "fnExactOrder", apart := false, narrowed := true }
def FnExactOrderUptoSaid : Prop := fnExactOrderUptoRow.holds Try.pinned (OpenSpec.upto fnExactOrderSpec)

/-- 'laws.FnExactBatchInverse', WHERE WHAT IT READS IS OF BULK AT MOST 1048576: true; the input reads as it did. -/
def fnExactBatchInverseUptoRow : OpenClaim := { program := "ytohneiapknlpgaa", sum := "8933b6c6fd8c3f2925dc90ef742ecfbb0fdd9f15a269ba64257d5ed565798ed5", func := "loop.example/g00710/laws.FnExactBatchInverse", spec := "fnExactBatchInverse", apart := false, narrowed := true }
def FnExactBatchInverseUptoSaid : Prop := fnExactBatchInverseUptoRow.holds Try.pinned (OpenSpec.upto fnExactBatchInverseSpec)

/-- 'laws.FnExactIsRoot', WHERE WHAT IT READS IS OF BULK AT MOST 1048576: true; the input reads as it did. -/
def fnExactIsRootUptoRow : OpenClaim := { program := "ytohneiapknlpgaa", sum := "8933b6c6fd8c3f2925dc90ef742ecfbb0fdd9f15a269ba64257d5ed565798ed5", func := "loop.example/g00710/laws.FnExactIsRoot", spec := "fnExactIsRoot", apart := false, narrowed := true }
def FnExactIsRootUptoSaid : Prop := fnExactIsRootUptoRow.holds Try.pinned (OpenSpec.upto fnExactIsRootSpec)

/-- 'laws.FnExactRoots', WHERE WHAT IT READS IS OF BULK AT MOST 1048576: true; the input reads as it did. -/
def fnExactRootsUptoRow : OpenClaim := { program := "ytohneiapknlpgaa", sum := "8933b6c6fd8c3f2925dc90ef742ecfbb0fdd9f15a269ba64257d5ed565798ed5", func := "loop.example/g00710/laws.FnExactRoots", spec := "fnExactRoots", apart := false, narrowed := true }
def FnExactRootsUptoSaid : Prop := fnExactRootsUptoRow.holds Try.pinned (OpenSpec.upto fnExactRootsSpec)

/-- 'laws.FnExactSquareRoot', WHERE WHAT IT READS IS OF BULK AT MOST 1048576: true; the input reads as it did. -/
def fnExactSquareRootUptoRow : OpenClaim := { program := "ytohneiapknlpgaa", sum := "8933b6c6fd8c3f2925dc90ef742ecfbb0fdd9f15a269ba64257d5ed565798ed5", func := "loop.example/g00710/laws.FnExactSquareRoot", spec := "fnExactSquareRoot", apart := false, narrowed := true }
def FnExactSquareRootUptoSaid : Prop := fnExactSquareRootUptoRow.holds Try.pinned (OpenSpec.upto fnExactSquareRootSpec)

/-- 'laws.FnPermuteTwice', WHERE WHAT IT READS IS OF BULK AT MOST 1048576: true; the input reads as it did. -/
def fnPermuteTwiceUptoRow : OpenClaim := { program := "ytohneiapknlpgaa", sum := "8933b6c6fd8c3f2925dc90ef742ecfbb0fdd9f15a269ba64257d5ed565798ed5", func := "loop.example/g00710/laws.FnPermuteTwice", spec := "fnPermuteTwice", apart := false, narrowed := true }
def FnPermuteTwiceUptoSaid : Prop := fnPermuteTwiceUptoRow.holds Try.pinned (OpenSpec.upto fnPermuteTwiceSpec)

/-- 'laws.FnSquares', WHERE WHAT IT READS IS OF BULK AT MOST 1048576: true; the input reads as it did. -/
def fnSquaresUptoRow : OpenClaim := { program := "ytohneiapknlpgaa", sum := "8933b6c6fd8c3f2925dc90ef742ecfbb0fdd9f15a269ba64257d5ed565798ed5", func := "loop.example/g00710/laws.FnSquares", spec := "fnSquares", apart := false, narrowed := true }
def FnSquaresUptoSaid : Prop := fnSquaresUptoRow.holds Try.pinned (OpenSpec.upto fnSquaresSpec)

end Rows
end Go.Proofs.Ytohneiapknlpgaa
