/-
  No cell of these rows narrows 'for every input' (looked for: loops, veiled, ifaces, maps, wideKeys, modest, calm, conditions, laid).
  DERIVED. THE GIVEN ROWS OF THIS SEAT. 11 by the template 'for every input the law returns true; each argument reads behind the call as it read before'; 0 by the template 'total and deterministic' (their statements: YtginidfoikheaaaTotals.lean).
  GIVEN WITH THE SEED: the statements are not yours to turn. If you find one false, say at which input.
  Laid BY PROGRAM, IN A SANDBOX (cutbox-rows.mjs): the forced cells as the released guide's own fill.sh prints them over the translation 058c0998bd210ead… (all of the seat's roots in one cut). By AI agents, Wed Nov 11 2026. No macro, syntax, notation, axiom, sorry.
-/
import Derived.Test.YtginidfoikheaaaChecked
import GoSem.Claim
import GoSem.ClaimJoined
import GoSem.ClaimMapViews
import Derived.JoinedTies
import Derived.KernelRfl
namespace Go.Proofs.Ytginidfoikheaaa
/- THE CELL 'sum', in the pinned program and in every row, IS THE sha256 OF THE DUMP (.gsa) THAT YtginidfoikheaaaProg.lean LOADS. Nothing in Lean hashes anything: it is a label: what it is worth is what the hold of that sum in a sandbox is worth. -/
noncomputable def Try.pinned : Pinned := { name := "ytginidfoikheaaa", sum := "058c0998bd210ead95b7c91aea4ebaf99b894f76b50d30a46730678c141d33e6", checked := Try.checked }
namespace Rows
def none {H : Type} : Left H := { results := [], args := [] }

/-- 'laws.FnFieldRing': WHATEVER THE INPUT: true; the input reads as it did. -/
def fnFieldRingSpec : ChangeSpec := { name := "fnFieldRing", fn := fun _ => fun
  | [d] => { results := [.lit (.bool true)], args := [d] }
  | _ => none }
def fnFieldRingRow : OpenClaim := { program := "ytginidfoikheaaa", sum := "058c0998bd210ead95b7c91aea4ebaf99b894f76b50d30a46730678c141d33e6", func := "loop.example/g00710/laws.FnFieldRing", spec := "fnFieldRing", apart := false }
def FnFieldRingSaid : Prop := fnFieldRingRow.holds Try.pinned (OpenSpec.ofChange fnFieldRingSpec)

/-- ITS FALSE NEIGHBOUR: 'it returns false'. Refute it at one input. -/
def fnFieldRingWrong : ChangeSpec := { name := "fnFieldRing", fn := fun _ => fun
  | [d] => { results := [.lit (.bool false)], args := [d] }
  | _ => none }
def FnFieldRingWrongFalsely : Prop := fnFieldRingRow.holds Try.pinned (OpenSpec.ofChange fnFieldRingWrong)

/-- 'laws.FnInverseBack': WHATEVER THE INPUT: true; the input reads as it did. -/
def fnInverseBackSpec : ChangeSpec := { name := "fnInverseBack", fn := fun _ => fun
  | [d] => { results := [.lit (.bool true)], args := [d] }
  | _ => none }
def fnInverseBackRow : OpenClaim := { program := "ytginidfoikheaaa", sum := "058c0998bd210ead95b7c91aea4ebaf99b894f76b50d30a46730678c141d33e6", func := "loop.example/g00710/laws.FnInverseBack", spec := "fnInverseBack", apart := false }
def FnInverseBackSaid : Prop := fnInverseBackRow.holds Try.pinned (OpenSpec.ofChange fnInverseBackSpec)

/-- ITS FALSE NEIGHBOUR: 'it returns false'. Refute it at one input. -/
def fnInverseBackWrong : ChangeSpec := { name := "fnInverseBack", fn := fun _ => fun
  | [d] => { results := [.lit (.bool false)], args := [d] }
  | _ => none }
def FnInverseBackWrongFalsely : Prop := fnInverseBackRow.holds Try.pinned (OpenSpec.ofChange fnInverseBackWrong)

/-- 'laws.FnBatch': WHATEVER THE INPUT: true; the input reads as it did. -/
def fnBatchSpec : ChangeSpec := { name := "fnBatch", fn := fun _ => fun
  | [d] => { results := [.lit (.bool true)], args := [d] }
  | _ => none }
def fnBatchRow : OpenClaim := { program := "ytginidfoikheaaa", sum := "058c0998bd210ead95b7c91aea4ebaf99b894f76b50d30a46730678c141d33e6", func := "loop.example/g00710/laws.FnBatch", spec := "fnBatch", apart := false }
def FnBatchSaid : Prop := fnBatchRow.holds Try.pinned (OpenSpec.ofChange fnBatchSpec)

/-- ITS FALSE NEIGHBOUR: 'it returns false'. Refute it at one input. -/
def fnBatchWrong : ChangeSpec := { name := "fnBatch", fn := fun _ => fun
  | [d] => { results := [.lit (.bool false)], args := [d] }
  | _ => none }
def FnBatchWrongFalsely : Prop := fnBatchRow.holds Try.pinned (OpenSpec.ofChange fnBatchWrong)

/-- 'laws.FnOrderLeast': WHATEVER THE INPUT: true; the input reads as it did. -/
def fnOrderLeastSpec : ChangeSpec := { name := "fnOrderLeast", fn := fun _ => fun
  | [d] => { results := [.lit (.bool true)], args := [d] }
  | _ => none }
def fnOrderLeastRow : OpenClaim := { program := "ytginidfoikheaaa", sum := "058c0998bd210ead95b7c91aea4ebaf99b894f76b50d30a46730678c141d33e6", func := "loop.example/g00710/laws.FnOrderLeast", spec := "fnOrderLeast", apart := false }
def FnOrderLeastSaid : Prop := fnOrderLeastRow.holds Try.pinned (OpenSpec.ofChange fnOrderLeastSpec)

/-- ITS FALSE NEIGHBOUR: 'it returns false'. Refute it at one input. -/
def fnOrderLeastWrong : ChangeSpec := { name := "fnOrderLeast", fn := fun _ => fun
  | [d] => { results := [.lit (.bool false)], args := [d] }
  | _ => none }
def FnOrderLeastWrongFalsely : Prop := fnOrderLeastRow.holds Try.pinned (OpenSpec.ofChange fnOrderLeastWrong)

/-- 'laws.FnRootsTurn': WHATEVER THE INPUT: true; the input reads as it did. -/
def fnRootsTurnSpec : ChangeSpec := { name := "fnRootsTurn", fn := fun _ => fun
  | [d] => { results := [.lit (.bool true)], args := [d] }
  | _ => none }
def fnRootsTurnRow : OpenClaim := { program := "ytginidfoikheaaa", sum := "058c0998bd210ead95b7c91aea4ebaf99b894f76b50d30a46730678c141d33e6", func := "loop.example/g00710/laws.FnRootsTurn", spec := "fnRootsTurn", apart := false }
def FnRootsTurnSaid : Prop := fnRootsTurnRow.holds Try.pinned (OpenSpec.ofChange fnRootsTurnSpec)

/-- ITS FALSE NEIGHBOUR: 'it returns false'. Refute it at one input. -/
def fnRootsTurnWrong : ChangeSpec := { name := "fnRootsTurn", fn := fun _ => fun
  | [d] => { results := [.lit (.bool false)], args := [d] }
  | _ => none }
def FnRootsTurnWrongFalsely : Prop := fnRootsTurnRow.holds Try.pinned (OpenSpec.ofChange fnRootsTurnWrong)

/-- 'laws.FnExactVectorOk': WHATEVER THE INPUT: true; the input reads as it did. -/
def fnExactVectorOkSpec : ChangeSpec := { name := "fnExactVectorOk", fn := fun _ => fun
  | [d1, d2] => { results := [.lit (.bool true)], args := [d1, d2] }
  | _ => none }
def fnExactVectorOkRow : OpenClaim := { program := "ytginidfoikheaaa", sum := "058c0998bd210ead95b7c91aea4ebaf99b894f76b50d30a46730678c141d33e6", func := "loop.example/g00710/laws.FnExactVectorOk", spec := "fnExactVectorOk", apart := false }
def FnExactVectorOkSaid : Prop := fnExactVectorOkRow.holds Try.pinned (OpenSpec.ofChange fnExactVectorOkSpec)

/-- ITS FALSE NEIGHBOUR: 'it returns false'. Refute it at one input. -/
def fnExactVectorOkWrong : ChangeSpec := { name := "fnExactVectorOk", fn := fun _ => fun
  | [d1, d2] => { results := [.lit (.bool false)], args := [d1, d2] }
  | _ => none }
def FnExactVectorOkWrongFalsely : Prop := fnExactVectorOkRow.holds Try.pinned (OpenSpec.ofChange fnExactVectorOkWrong)

/-- 'laws.FnExactRotate': WHATEVER THE INPUT: true; the input reads as it did. -/
def fnExactRotateSpec : ChangeSpec := { name := "fnExactRotate", fn := fun _ => fun
  | [d1, d2, d3] => { results := [.lit (.bool true)], args := [d1, d2, d3] }
  | _ => none }
def fnExactRotateRow : OpenClaim := { program := "ytginidfoikheaaa", sum := "058c0998bd210ead95b7c91aea4ebaf99b894f76b50d30a46730678c141d33e6", func := "loop.example/g00710/laws.FnExactRotate", spec := "fnExactRotate", apart := false }
def FnExactRotateSaid : Prop := fnExactRotateRow.holds Try.pinned (OpenSpec.ofChange fnExactRotateSpec)

/-- ITS FALSE NEIGHBOUR: 'it returns false'. Refute it at one input. -/
def fnExactRotateWrong : ChangeSpec := { name := "fnExactRotate", fn := fun _ => fun
  | [d1, d2, d3] => { results := [.lit (.bool false)], args := [d1, d2, d3] }
  | _ => none }
def FnExactRotateWrongFalsely : Prop := fnExactRotateRow.holds Try.pinned (OpenSpec.ofChange fnExactRotateWrong)

/-- 'laws.FnExactEnergy': WHATEVER THE INPUT: true; the input reads as it did. -/
def fnExactEnergySpec : ChangeSpec := { name := "fnExactEnergy", fn := fun _ => fun
  | [d1, d2] => { results := [.lit (.bool true)], args := [d1, d2] }
  | _ => none }
def fnExactEnergyRow : OpenClaim := { program := "ytginidfoikheaaa", sum := "058c0998bd210ead95b7c91aea4ebaf99b894f76b50d30a46730678c141d33e6", func := "loop.example/g00710/laws.FnExactEnergy", spec := "fnExactEnergy", apart := false }
def FnExactEnergySaid : Prop := fnExactEnergyRow.holds Try.pinned (OpenSpec.ofChange fnExactEnergySpec)

/-- ITS FALSE NEIGHBOUR: 'it returns false'. Refute it at one input. -/
def fnExactEnergyWrong : ChangeSpec := { name := "fnExactEnergy", fn := fun _ => fun
  | [d1, d2] => { results := [.lit (.bool false)], args := [d1, d2] }
  | _ => none }
def FnExactEnergyWrongFalsely : Prop := fnExactEnergyRow.holds Try.pinned (OpenSpec.ofChange fnExactEnergyWrong)

/-- 'laws.FnExactCorrelate': WHATEVER THE INPUT: true; the input reads as it did. -/
def fnExactCorrelateSpec : ChangeSpec := { name := "fnExactCorrelate", fn := fun _ => fun
  | [d1, d2, d3] => { results := [.lit (.bool true)], args := [d1, d2, d3] }
  | _ => none }
def fnExactCorrelateRow : OpenClaim := { program := "ytginidfoikheaaa", sum := "058c0998bd210ead95b7c91aea4ebaf99b894f76b50d30a46730678c141d33e6", func := "loop.example/g00710/laws.FnExactCorrelate", spec := "fnExactCorrelate", apart := false }
def FnExactCorrelateSaid : Prop := fnExactCorrelateRow.holds Try.pinned (OpenSpec.ofChange fnExactCorrelateSpec)

/-- ITS FALSE NEIGHBOUR: 'it returns false'. Refute it at one input. -/
def fnExactCorrelateWrong : ChangeSpec := { name := "fnExactCorrelate", fn := fun _ => fun
  | [d1, d2, d3] => { results := [.lit (.bool false)], args := [d1, d2, d3] }
  | _ => none }
def FnExactCorrelateWrongFalsely : Prop := fnExactCorrelateRow.holds Try.pinned (OpenSpec.ofChange fnExactCorrelateWrong)

/-- 'laws.FnExactPointwise': WHATEVER THE INPUT: true; the input reads as it did. -/
def fnExactPointwiseSpec : ChangeSpec := { name := "fnExactPointwise", fn := fun _ => fun
  | [d1, d2, d3] => { results := [.lit (.bool true)], args := [d1, d2, d3] }
  | _ => none }
def fnExactPointwiseRow : OpenClaim := { program := "ytginidfoikheaaa", sum := "058c0998bd210ead95b7c91aea4ebaf99b894f76b50d30a46730678c141d33e6", func := "loop.example/g00710/laws.FnExactPointwise", spec := "fnExactPointwise", apart := false }
def FnExactPointwiseSaid : Prop := fnExactPointwiseRow.holds Try.pinned (OpenSpec.ofChange fnExactPointwiseSpec)

/-- ITS FALSE NEIGHBOUR: 'it returns false'. Refute it at one input. -/
def fnExactPointwiseWrong : ChangeSpec := { name := "fnExactPointwise", fn := fun _ => fun
  | [d1, d2, d3] => { results := [.lit (.bool false)], args := [d1, d2, d3] }
  | _ => none }
def FnExactPointwiseWrongFalsely : Prop := fnExactPointwiseRow.holds Try.pinned (OpenSpec.ofChange fnExactPointwiseWrong)

/-- 'laws.FnExactTwisted': WHATEVER THE INPUT: true; the input reads as it did. -/
def fnExactTwistedSpec : ChangeSpec := { name := "fnExactTwisted", fn := fun _ => fun
  | [d1, d2, d3] => { results := [.lit (.bool true)], args := [d1, d2, d3] }
  | _ => none }
def fnExactTwistedRow : OpenClaim := { program := "ytginidfoikheaaa", sum := "058c0998bd210ead95b7c91aea4ebaf99b894f76b50d30a46730678c141d33e6", func := "loop.example/g00710/laws.FnExactTwisted", spec := "fnExactTwisted", apart := false }
def FnExactTwistedSaid : Prop := fnExactTwistedRow.holds Try.pinned (OpenSpec.ofChange fnExactTwistedSpec)

/-- ITS FALSE NEIGHBOUR: 'it returns false'. Refute it at one input. -/
def fnExactTwistedWrong : ChangeSpec := { name := "fnExactTwisted", fn := fun _ => fun
  | [d1, d2, d3] => { results := [.lit (.bool false)], args := [d1, d2, d3] }
  | _ => none }
def FnExactTwistedWrongFalsely : Prop := fnExactTwistedRow.holds Try.pinned (OpenSpec.ofChange fnExactTwistedWrong)

/- THE SECOND FORM. 'bulk': how many values and letters a reading holds, each counted each time it is reached (what is shared counts as often as it is met; a slice's spare places count too). A statement '..UptoSaid' is the law's where the arguments, and the package variables that the reading takes, are together of bulk at most 1048576: NARROWER than '..Said'. Prove '..Said' where nothing that the law and all that it calls make is longer than what came in: it says more and counts as full. Else prove '..UptoSaid'. A law counts once. -/
mutual
def uptoBulk {H : Type} : DataW H → Nat
  | .lit (.string bytes) => bytes.length + 1
  | .lit _ => 1
  | .nil => 1
  | .ptr d => uptoBulk d + 1
  | .slice elems spare => uptoBulkAll elems + uptoBulkAll spare + 1
  | .agg parts => uptoBulkAll parts + 1
  | .iface _ d => uptoBulk d + 1
  | .map entries => uptoBulkEntries entries + 1
  | .held _ => 1
def uptoBulkAll {H : Type} : List (DataW H) → Nat
  | [] => 0
  | d :: r => uptoBulk d + uptoBulkAll r
def uptoBulkEntries {H : Type} : List (Lit × DataW H) → Nat
  | [] => 0
  | x :: r => uptoBulkEntry x + uptoBulkEntries r
def uptoBulkEntry {H : Type} : Lit × DataW H → Nat
  | (.string bytes, d) => bytes.length + uptoBulk d + 1
  | (_, d) => uptoBulk d + 1
 end
def uptoSmall : (H : Type) → List (DataW H) → Bool := fun _ ds => decide (uptoBulkAll ds ≤ 1048576)
def OpenSpec.upto (s : _root_.Go.ChangeSpec) : _root_.Go.OpenSpec := { _root_.Go.OpenSpec.ofChange s with cond := some uptoSmall }

/-- 'laws.FnFieldRing', WHERE WHAT IT READS IS OF BULK AT MOST 1048576: true; the input reads as it did. -/
def fnFieldRingUptoRow : OpenClaim := { program := "ytginidfoikheaaa", sum := "058c0998bd210ead95b7c91aea4ebaf99b894f76b50d30a46730678c141d33e6", func := "loop.example/g00710/laws.FnFieldRing", spec := "fnFieldRing", apart := false, narrowed := true }
def FnFieldRingUptoSaid : Prop := fnFieldRingUptoRow.holds Try.pinned (OpenSpec.upto fnFieldRingSpec)

/-- 'laws.FnInverseBack', WHERE WHAT IT READS IS OF BULK AT MOST 1048576: true; the input reads as it did. -/
def fnInverseBackUptoRow : OpenClaim := { program := "ytginidfoikheaaa", sum := "058c0998bd210ead95b7c91aea4ebaf99b894f76b50d30a46730678c141d33e6", func := "loop.example/g00710/laws.FnInverseBack", spec := "fnInverseBack", apart := false, narrowed := true }
def FnInverseBackUptoSaid : Prop := fnInverseBackUptoRow.holds Try.pinned (OpenSpec.upto fnInverseBackSpec)

/-- 'laws.FnBatch', WHERE WHAT IT READS IS OF BULK AT MOST 1048576: true; the input reads as it did. -/
def fnBatchUptoRow : OpenClaim := { program := "ytginidfoikheaaa", sum := "058c0998bd210ead95b7c91aea4ebaf99b894f76b50d30a46730678c141d33e6", func := "loop.example/g00710/laws.FnBatch", spec := "fnBatch", apart := false, narrowed := true }
def FnBatchUptoSaid : Prop := fnBatchUptoRow.holds Try.pinned (OpenSpec.upto fnBatchSpec)

/-- 'laws.FnOrderLeast', WHERE WHAT IT READS IS OF BULK AT MOST 1048576: true; the input reads as it did. -/
def fnOrderLeastUptoRow : OpenClaim := { program := "ytginidfoikheaaa", sum := "058c0998bd210ead95b7c91aea4ebaf99b894f76b50d30a46730678c141d33e6", func := "loop.example/g00710/laws.FnOrderLeast", spec := "fnOrderLeast", apart := false, narrowed := true }
def FnOrderLeastUptoSaid : Prop := fnOrderLeastUptoRow.holds Try.pinned (OpenSpec.upto fnOrderLeastSpec)

/-- 'laws.FnRootsTurn', WHERE WHAT IT READS IS OF BULK AT MOST 1048576: true; the input reads as it did. -/
def fnRootsTurnUptoRow : OpenClaim := { program := "ytginidfoikheaaa", sum := "058c0998bd210ead95b7c91aea4ebaf99b894f76b50d30a46730678c141d33e6", func := "loop.example/g00710/laws.FnRootsTurn", spec := "fnRootsTurn", apart := false, narrowed := true }
def FnRootsTurnUptoSaid : Prop := fnRootsTurnUptoRow.holds Try.pinned (OpenSpec.upto fnRootsTurnSpec)

/-- 'laws.FnExactVectorOk', WHERE WHAT IT READS IS OF BULK AT MOST 1048576: true; the input reads as it did. -/
def fnExactVectorOkUptoRow : OpenClaim := { program := "ytginidfoikheaaa", sum := "058c0998bd210ead95b7c91aea4ebaf99b894f76b50d30a46730678c141d33e6", func := "loop.example/g00710/laws.FnExactVectorOk", spec := "fnExactVectorOk", apart := false, narrowed := true }
def FnExactVectorOkUptoSaid : Prop := fnExactVectorOkUptoRow.holds Try.pinned (OpenSpec.upto fnExactVectorOkSpec)

/-- 'laws.FnExactRotate', WHERE WHAT IT READS IS OF BULK AT MOST 1048576: true; the input reads as it did. -/
def fnExactRotateUptoRow : OpenClaim := { program := "ytginidfoikheaaa", sum := "058c0998bd210ead95b7c91aea4ebaf99b894f76b50d30a46730678c141d33e6", func := "loop.example/g00710/laws.FnExactRotate", spec := "fnExactRotate", apart := false, narrowed := true }
def FnExactRotateUptoSaid : Prop := fnExactRotateUptoRow.holds Try.pinned (OpenSpec.upto fnExactRotateSpec)

/-- 'laws.FnExactEnergy', WHERE WHAT IT READS IS OF BULK AT MOST 1048576: true; the input reads as it did. -/
def fnExactEnergyUptoRow : OpenClaim := { program := "ytginidfoikheaaa", sum := "058c0998bd210ead95b7c91aea4ebaf99b894f76b50d30a46730678c141d33e6", func := "loop.example/g00710/laws.FnExactEnergy", spec := "fnExactEnergy", apart := false, narrowed := true }
def FnExactEnergyUptoSaid : Prop := fnExactEnergyUptoRow.holds Try.pinned (OpenSpec.upto fnExactEnergySpec)

/-- 'laws.FnExactCorrelate', WHERE WHAT IT READS IS OF BULK AT MOST 1048576: true; the input reads as it did. -/
def fnExactCorrelateUptoRow : OpenClaim := { program := "ytginidfoikheaaa", sum := "058c0998bd210ead95b7c91aea4ebaf99b894f76b50d30a46730678c141d33e6", func := "loop.example/g00710/laws.FnExactCorrelate", spec := "fnExactCorrelate", apart := false, narrowed := true }
def FnExactCorrelateUptoSaid : Prop := fnExactCorrelateUptoRow.holds Try.pinned (OpenSpec.upto fnExactCorrelateSpec)

/-- 'laws.FnExactPointwise', WHERE WHAT IT READS IS OF BULK AT MOST 1048576: true; the input reads as it did. -/
def fnExactPointwiseUptoRow : OpenClaim := { program := "ytginidfoikheaaa", sum := "058c0998bd210ead95b7c91aea4ebaf99b894f76b50d30a46730678c141d33e6", func := "loop.example/g00710/laws.FnExactPointwise", spec := "fnExactPointwise", apart := false, narrowed := true }
def FnExactPointwiseUptoSaid : Prop := fnExactPointwiseUptoRow.holds Try.pinned (OpenSpec.upto fnExactPointwiseSpec)

/-- 'laws.FnExactTwisted', WHERE WHAT IT READS IS OF BULK AT MOST 1048576: true; the input reads as it did. -/
def fnExactTwistedUptoRow : OpenClaim := { program := "ytginidfoikheaaa", sum := "058c0998bd210ead95b7c91aea4ebaf99b894f76b50d30a46730678c141d33e6", func := "loop.example/g00710/laws.FnExactTwisted", spec := "fnExactTwisted", apart := false, narrowed := true }
def FnExactTwistedUptoSaid : Prop := fnExactTwistedUptoRow.holds Try.pinned (OpenSpec.upto fnExactTwistedSpec)

end Rows
end Go.Proofs.Ytginidfoikheaaa
