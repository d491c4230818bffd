/-
  No cell of these rows narrows 'for every input' (looked for: loops, veiled, ifaces, maps, wideKeys, modest, calm, conditions, laid).
  DERIVED. THE GIVEN ROWS OF THIS SEAT. 12 by the template 'for every input the law returns true; each argument reads behind the call as it read before'; 0 by the template 'total and deterministic' (their statements: YtigfpkbdkdihbaaTotals.lean).
  GIVEN WITH THE SEED: the statements are not yours to turn. If you find one false, say at which input.
  Laid BY PROGRAM, IN A SANDBOX (cutbox-rows.mjs): the forced cells as the released guide's own fill.sh prints them over the translation 04bada2114107340… (all of the seat's roots in one cut). By AI agents, Wed Nov 11 2026. No macro, syntax, notation, axiom, sorry.
-/
import Derived.Test.YtigfpkbdkdihbaaChecked
import GoSem.Claim
import GoSem.ClaimJoined
import GoSem.ClaimMapViews
import Derived.JoinedTies
import Derived.KernelRfl
namespace Go.Proofs.Ytigfpkbdkdihbaa
/- THE CELL 'sum', in the pinned program and in every row, IS THE sha256 OF THE DUMP (.gsa) THAT YtigfpkbdkdihbaaProg.lean LOADS. Nothing in Lean hashes anything: it is a label: what it is worth is what the hold of that sum in a sandbox is worth. -/
noncomputable def Try.pinned : Pinned := { name := "ytigfpkbdkdihbaa", sum := "04bada21141073406c89171e5b30f9fd3506d9975c87d2656a88cbea0f339afb", checked := Try.checked }
namespace Rows
def none {H : Type} : Left H := { results := [], args := [] }

/-- 'laws.FnExactConstants': WHATEVER THE INPUT: true; the input reads as it did. -/
def fnExactConstantsSpec : ChangeSpec := { name := "fnExactConstants", fn := fun _ => fun
  | [] => { results := [.lit (.bool true)], args := [] }
  | _ => none }
def fnExactConstantsRow : OpenClaim := { program := "ytigfpkbdkdihbaa", sum := "04bada21141073406c89171e5b30f9fd3506d9975c87d2656a88cbea0f339afb", func := "loop.example/g00710/laws.FnExactConstants", spec := "fnExactConstants", apart := false }
def FnExactConstantsSaid : Prop := fnExactConstantsRow.holds Try.pinned (OpenSpec.ofChange fnExactConstantsSpec)

/-- ITS FALSE NEIGHBOUR: 'it returns false'. Refute it at one input. -/
def fnExactConstantsWrong : ChangeSpec := { name := "fnExactConstants", fn := fun _ => fun
  | [] => { results := [.lit (.bool false)], args := [] }
  | _ => none }
def FnExactConstantsWrongFalsely : Prop := fnExactConstantsRow.holds Try.pinned (OpenSpec.ofChange fnExactConstantsWrong)

/-- 'laws.FnExactLogOf': WHATEVER THE INPUT: true; the input reads as it did. -/
def fnExactLogOfSpec : ChangeSpec := { name := "fnExactLogOf", fn := fun _ => fun
  | [d] => { results := [.lit (.bool true)], args := [d] }
  | _ => none }
def fnExactLogOfRow : OpenClaim := { program := "ytigfpkbdkdihbaa", sum := "04bada21141073406c89171e5b30f9fd3506d9975c87d2656a88cbea0f339afb", func := "loop.example/g00710/laws.FnExactLogOf", spec := "fnExactLogOf", apart := false }
def FnExactLogOfSaid : Prop := fnExactLogOfRow.holds Try.pinned (OpenSpec.ofChange fnExactLogOfSpec)

/-- ITS FALSE NEIGHBOUR: 'it returns false'. Refute it at one input. -/
def fnExactLogOfWrong : ChangeSpec := { name := "fnExactLogOf", fn := fun _ => fun
  | [d] => { results := [.lit (.bool false)], args := [d] }
  | _ => none }
def FnExactLogOfWrongFalsely : Prop := fnExactLogOfRow.holds Try.pinned (OpenSpec.ofChange fnExactLogOfWrong)

/-- 'laws.FnExactGenerator': WHATEVER THE INPUT: true; the input reads as it did. -/
def fnExactGeneratorSpec : ChangeSpec := { name := "fnExactGenerator", fn := fun _ => fun
  | [d] => { results := [.lit (.bool true)], args := [d] }
  | _ => none }
def fnExactGeneratorRow : OpenClaim := { program := "ytigfpkbdkdihbaa", sum := "04bada21141073406c89171e5b30f9fd3506d9975c87d2656a88cbea0f339afb", func := "loop.example/g00710/laws.FnExactGenerator", spec := "fnExactGenerator", apart := false }
def FnExactGeneratorSaid : Prop := fnExactGeneratorRow.holds Try.pinned (OpenSpec.ofChange fnExactGeneratorSpec)

/-- ITS FALSE NEIGHBOUR: 'it returns false'. Refute it at one input. -/
def fnExactGeneratorWrong : ChangeSpec := { name := "fnExactGenerator", fn := fun _ => fun
  | [d] => { results := [.lit (.bool false)], args := [d] }
  | _ => none }
def FnExactGeneratorWrongFalsely : Prop := fnExactGeneratorRow.holds Try.pinned (OpenSpec.ofChange fnExactGeneratorWrong)

/-- 'laws.FnExactReverse': WHATEVER THE INPUT: true; the input reads as it did. -/
def fnExactReverseSpec : ChangeSpec := { name := "fnExactReverse", fn := fun _ => fun
  | [d1, d2] => { results := [.lit (.bool true)], args := [d1, d2] }
  | _ => none }
def fnExactReverseRow : OpenClaim := { program := "ytigfpkbdkdihbaa", sum := "04bada21141073406c89171e5b30f9fd3506d9975c87d2656a88cbea0f339afb", func := "loop.example/g00710/laws.FnExactReverse", spec := "fnExactReverse", apart := false }
def FnExactReverseSaid : Prop := fnExactReverseRow.holds Try.pinned (OpenSpec.ofChange fnExactReverseSpec)

/-- ITS FALSE NEIGHBOUR: 'it returns false'. Refute it at one input. -/
def fnExactReverseWrong : ChangeSpec := { name := "fnExactReverse", fn := fun _ => fun
  | [d1, d2] => { results := [.lit (.bool false)], args := [d1, d2] }
  | _ => none }
def FnExactReverseWrongFalsely : Prop := fnExactReverseRow.holds Try.pinned (OpenSpec.ofChange fnExactReverseWrong)

/-- 'laws.FnExactModulus': WHATEVER THE INPUT: true; the input reads as it did. -/
def fnExactModulusSpec : ChangeSpec := { name := "fnExactModulus", fn := fun _ => fun
  | [d] => { results := [.lit (.bool true)], args := [d] }
  | _ => none }
def fnExactModulusRow : OpenClaim := { program := "ytigfpkbdkdihbaa", sum := "04bada21141073406c89171e5b30f9fd3506d9975c87d2656a88cbea0f339afb", func := "loop.example/g00710/laws.FnExactModulus", spec := "fnExactModulus", apart := false }
def FnExactModulusSaid : Prop := fnExactModulusRow.holds Try.pinned (OpenSpec.ofChange fnExactModulusSpec)

/-- ITS FALSE NEIGHBOUR: 'it returns false'. Refute it at one input. -/
def fnExactModulusWrong : ChangeSpec := { name := "fnExactModulus", fn := fun _ => fun
  | [d] => { results := [.lit (.bool false)], args := [d] }
  | _ => none }
def FnExactModulusWrongFalsely : Prop := fnExactModulusRow.holds Try.pinned (OpenSpec.ofChange fnExactModulusWrong)

/-- 'laws.FnExactTwoPower': WHATEVER THE INPUT: true; the input reads as it did. -/
def fnExactTwoPowerSpec : ChangeSpec := { name := "fnExactTwoPower", fn := fun _ => fun
  | [d] => { results := [.lit (.bool true)], args := [d] }
  | _ => none }
def fnExactTwoPowerRow : OpenClaim := { program := "ytigfpkbdkdihbaa", sum := "04bada21141073406c89171e5b30f9fd3506d9975c87d2656a88cbea0f339afb", func := "loop.example/g00710/laws.FnExactTwoPower", spec := "fnExactTwoPower", apart := false }
def FnExactTwoPowerSaid : Prop := fnExactTwoPowerRow.holds Try.pinned (OpenSpec.ofChange fnExactTwoPowerSpec)

/-- ITS FALSE NEIGHBOUR: 'it returns false'. Refute it at one input. -/
def fnExactTwoPowerWrong : ChangeSpec := { name := "fnExactTwoPower", fn := fun _ => fun
  | [d] => { results := [.lit (.bool false)], args := [d] }
  | _ => none }
def FnExactTwoPowerWrongFalsely : Prop := fnExactTwoPowerRow.holds Try.pinned (OpenSpec.ofChange fnExactTwoPowerWrong)

/-- 'laws.FnDivBack': WHATEVER THE INPUT: true; the input reads as it did. -/
def fnDivBackSpec : ChangeSpec := { name := "fnDivBack", fn := fun _ => fun
  | [d] => { results := [.lit (.bool true)], args := [d] }
  | _ => none }
def fnDivBackRow : OpenClaim := { program := "ytigfpkbdkdihbaa", sum := "04bada21141073406c89171e5b30f9fd3506d9975c87d2656a88cbea0f339afb", func := "loop.example/g00710/laws.FnDivBack", spec := "fnDivBack", apart := false }
def FnDivBackSaid : Prop := fnDivBackRow.holds Try.pinned (OpenSpec.ofChange fnDivBackSpec)

/-- ITS FALSE NEIGHBOUR: 'it returns false'. Refute it at one input. -/
def fnDivBackWrong : ChangeSpec := { name := "fnDivBack", fn := fun _ => fun
  | [d] => { results := [.lit (.bool false)], args := [d] }
  | _ => none }
def FnDivBackWrongFalsely : Prop := fnDivBackRow.holds Try.pinned (OpenSpec.ofChange fnDivBackWrong)

/-- 'laws.FnExactReduce': WHATEVER THE INPUT: true; the input reads as it did. -/
def fnExactReduceSpec : ChangeSpec := { name := "fnExactReduce", fn := fun _ => fun
  | [d1, d2] => { results := [.lit (.bool true)], args := [d1, d2] }
  | _ => none }
def fnExactReduceRow : OpenClaim := { program := "ytigfpkbdkdihbaa", sum := "04bada21141073406c89171e5b30f9fd3506d9975c87d2656a88cbea0f339afb", func := "loop.example/g00710/laws.FnExactReduce", spec := "fnExactReduce", apart := false }
def FnExactReduceSaid : Prop := fnExactReduceRow.holds Try.pinned (OpenSpec.ofChange fnExactReduceSpec)

/-- ITS FALSE NEIGHBOUR: 'it returns false'. Refute it at one input. -/
def fnExactReduceWrong : ChangeSpec := { name := "fnExactReduce", fn := fun _ => fun
  | [d1, d2] => { results := [.lit (.bool false)], args := [d1, d2] }
  | _ => none }
def FnExactReduceWrongFalsely : Prop := fnExactReduceRow.holds Try.pinned (OpenSpec.ofChange fnExactReduceWrong)

/-- 'laws.FnExactAdd': WHATEVER THE INPUT: true; the input reads as it did. -/
def fnExactAddSpec : ChangeSpec := { name := "fnExactAdd", fn := fun _ => fun
  | [d1, d2, d3] => { results := [.lit (.bool true)], args := [d1, d2, d3] }
  | _ => none }
def fnExactAddRow : OpenClaim := { program := "ytigfpkbdkdihbaa", sum := "04bada21141073406c89171e5b30f9fd3506d9975c87d2656a88cbea0f339afb", func := "loop.example/g00710/laws.FnExactAdd", spec := "fnExactAdd", apart := false }
def FnExactAddSaid : Prop := fnExactAddRow.holds Try.pinned (OpenSpec.ofChange fnExactAddSpec)

/-- ITS FALSE NEIGHBOUR: 'it returns false'. Refute it at one input. -/
def fnExactAddWrong : ChangeSpec := { name := "fnExactAdd", fn := fun _ => fun
  | [d1, d2, d3] => { results := [.lit (.bool false)], args := [d1, d2, d3] }
  | _ => none }
def FnExactAddWrongFalsely : Prop := fnExactAddRow.holds Try.pinned (OpenSpec.ofChange fnExactAddWrong)

/-- 'laws.FnExactMul': WHATEVER THE INPUT: true; the input reads as it did. -/
def fnExactMulSpec : ChangeSpec := { name := "fnExactMul", fn := fun _ => fun
  | [d1, d2, d3] => { results := [.lit (.bool true)], args := [d1, d2, d3] }
  | _ => none }
def fnExactMulRow : OpenClaim := { program := "ytigfpkbdkdihbaa", sum := "04bada21141073406c89171e5b30f9fd3506d9975c87d2656a88cbea0f339afb", func := "loop.example/g00710/laws.FnExactMul", spec := "fnExactMul", apart := false }
def FnExactMulSaid : Prop := fnExactMulRow.holds Try.pinned (OpenSpec.ofChange fnExactMulSpec)

/-- ITS FALSE NEIGHBOUR: 'it returns false'. Refute it at one input. -/
def fnExactMulWrong : ChangeSpec := { name := "fnExactMul", fn := fun _ => fun
  | [d1, d2, d3] => { results := [.lit (.bool false)], args := [d1, d2, d3] }
  | _ => none }
def FnExactMulWrongFalsely : Prop := fnExactMulRow.holds Try.pinned (OpenSpec.ofChange fnExactMulWrong)

/-- 'laws.FnExactSub': WHATEVER THE INPUT: true; the input reads as it did. -/
def fnExactSubSpec : ChangeSpec := { name := "fnExactSub", fn := fun _ => fun
  | [d1, d2, d3] => { results := [.lit (.bool true)], args := [d1, d2, d3] }
  | _ => none }
def fnExactSubRow : OpenClaim := { program := "ytigfpkbdkdihbaa", sum := "04bada21141073406c89171e5b30f9fd3506d9975c87d2656a88cbea0f339afb", func := "loop.example/g00710/laws.FnExactSub", spec := "fnExactSub", apart := false }
def FnExactSubSaid : Prop := fnExactSubRow.holds Try.pinned (OpenSpec.ofChange fnExactSubSpec)

/-- ITS FALSE NEIGHBOUR: 'it returns false'. Refute it at one input. -/
def fnExactSubWrong : ChangeSpec := { name := "fnExactSub", fn := fun _ => fun
  | [d1, d2, d3] => { results := [.lit (.bool false)], args := [d1, d2, d3] }
  | _ => none }
def FnExactSubWrongFalsely : Prop := fnExactSubRow.holds Try.pinned (OpenSpec.ofChange fnExactSubWrong)

/-- 'laws.FnExactInverse': WHATEVER THE INPUT: true; the input reads as it did. -/
def fnExactInverseSpec : ChangeSpec := { name := "fnExactInverse", fn := fun _ => fun
  | [d1, d2] => { results := [.lit (.bool true)], args := [d1, d2] }
  | _ => none }
def fnExactInverseRow : OpenClaim := { program := "ytigfpkbdkdihbaa", sum := "04bada21141073406c89171e5b30f9fd3506d9975c87d2656a88cbea0f339afb", func := "loop.example/g00710/laws.FnExactInverse", spec := "fnExactInverse", apart := false }
def FnExactInverseSaid : Prop := fnExactInverseRow.holds Try.pinned (OpenSpec.ofChange fnExactInverseSpec)

/-- ITS FALSE NEIGHBOUR: 'it returns false'. Refute it at one input. -/
def fnExactInverseWrong : ChangeSpec := { name := "fnExactInverse", fn := fun _ => fun
  | [d1, d2] => { results := [.lit (.bool false)], args := [d1, d2] }
  | _ => none }
def FnExactInverseWrongFalsely : Prop := fnExactInverseRow.holds Try.pinned (OpenSpec.ofChange fnExactInverseWrong)

/- THE SECOND FORM. 'bulk': how many values and letters a reading holds, each counted each time it is reached (what is shared counts as often as it is met; a slice's spare places count too). A statement '..UptoSaid' is the law's where the arguments, and the package variables that the reading takes, are together of bulk at most 1048576: NARROWER than '..Said'. Prove '..Said' where nothing that the law and all that it calls make is longer than what came in: it says more and counts as full. Else prove '..UptoSaid'. A law counts once. -/
mutual
def uptoBulk {H : Type} : DataW H → Nat
  | .lit (.string bytes) => bytes.length + 1
  | .lit _ => 1
  | .nil => 1
  | .ptr d => uptoBulk d + 1
  | .slice elems spare => uptoBulkAll elems + uptoBulkAll spare + 1
  | .agg parts => uptoBulkAll parts + 1
  | .iface _ d => uptoBulk d + 1
  | .map entries => uptoBulkEntries entries + 1
  | .held _ => 1
def uptoBulkAll {H : Type} : List (DataW H) → Nat
  | [] => 0
  | d :: r => uptoBulk d + uptoBulkAll r
def uptoBulkEntries {H : Type} : List (Lit × DataW H) → Nat
  | [] => 0
  | x :: r => uptoBulkEntry x + uptoBulkEntries r
def uptoBulkEntry {H : Type} : Lit × DataW H → Nat
  | (.string bytes, d) => bytes.length + uptoBulk d + 1
  | (_, d) => uptoBulk d + 1
 end
def uptoSmall : (H : Type) → List (DataW H) → Bool := fun _ ds => decide (uptoBulkAll ds ≤ 1048576)
def OpenSpec.upto (s : _root_.Go.ChangeSpec) : _root_.Go.OpenSpec := { _root_.Go.OpenSpec.ofChange s with cond := some uptoSmall }

/-- 'laws.FnExactConstants', WHERE WHAT IT READS IS OF BULK AT MOST 1048576: true; the input reads as it did. -/
def fnExactConstantsUptoRow : OpenClaim := { program := "ytigfpkbdkdihbaa", sum := "04bada21141073406c89171e5b30f9fd3506d9975c87d2656a88cbea0f339afb", func := "loop.example/g00710/laws.FnExactConstants", spec := "fnExactConstants", apart := false, narrowed := true }
def FnExactConstantsUptoSaid : Prop := fnExactConstantsUptoRow.holds Try.pinned (OpenSpec.upto fnExactConstantsSpec)

/-- 'laws.FnExactLogOf', WHERE WHAT IT READS IS OF BULK AT MOST 1048576: true; the input reads as it did. -/
def fnExactLogOfUptoRow : OpenClaim := { program := "ytigfpkbdkdihbaa", sum := "04bada21141073406c89171e5b30f9fd3506d9975c87d2656a88cbea0f339afb", func := "loop.example/g00710/laws.FnExactLogOf", spec := "fnExactLogOf", apart := false, narrowed := true }
def FnExactLogOfUptoSaid : Prop := fnExactLogOfUptoRow.holds Try.pinned (OpenSpec.upto fnExactLogOfSpec)

/-- 'laws.FnExactGenerator', WHERE WHAT IT READS IS OF BULK AT MOST 1048576: true; the input reads as it did. -/
def fnExactGeneratorUptoRow : OpenClaim := { program := "ytigfpkbdkdihbaa", sum := "04bada21141073406c89171e5b30f9fd3506d9975c87d2656a88cbea0f339afb", func := "loop.example/g00710/laws.FnExactGenerator", spec := "fnExactGenerator", apart := false, narrowed := true }
def FnExactGeneratorUptoSaid : Prop := fnExactGeneratorUptoRow.holds Try.pinned (OpenSpec.upto fnExactGeneratorSpec)

/-- 'laws.FnExactReverse', WHERE WHAT IT READS IS OF BULK AT MOST 1048576: true; the input reads as it did. -/
def fnExactReverseUptoRow : OpenClaim := { program := "ytigfpkbdkdihbaa", sum := "04bada21141073406c89171e5b30f9fd3506d9975c87d2656a88cbea0f339afb", func := "loop.example/g00710/laws.FnExactReverse", spec := "fnExactReverse", apart := false, narrowed := true }
def FnExactReverseUptoSaid : Prop := fnExactReverseUptoRow.holds Try.pinned (OpenSpec.upto fnExactReverseSpec)

/-- 'laws.FnExactModulus', WHERE WHAT IT READS IS OF BULK AT MOST 1048576: true; the input reads as it did. -/
def fnExactModulusUptoRow : OpenClaim := { program := "ytigfpkbdkdihbaa", sum := "04bada21141073406c89171e5b30f9fd3506d9975c87d2656a88cbea0f339afb", func := "loop.example/g00710/laws.FnExactModulus", spec := "fnExactModulus", apart := false, narrowed := true }
def FnExactModulusUptoSaid : Prop := fnExactModulusUptoRow.holds Try.pinned (OpenSpec.upto fnExactModulusSpec)

/-- 'laws.FnExactTwoPower', WHERE WHAT IT READS IS OF BULK AT MOST 1048576: true; the input reads as it did. -/
def fnExactTwoPowerUptoRow : OpenClaim := { program := "ytigfpkbdkdihbaa", sum := "04bada21141073406c89171e5b30f9fd3506d9975c87d2656a88cbea0f339afb", func := "loop.example/g00710/laws.FnExactTwoPower", spec := "fnExactTwoPower", apart := false, narrowed := true }
def FnExactTwoPowerUptoSaid : Prop := fnExactTwoPowerUptoRow.holds Try.pinned (OpenSpec.upto fnExactTwoPowerSpec)

/-- 'laws.FnDivBack', WHERE WHAT IT READS IS OF BULK AT MOST 1048576: true; the input reads as it did. -/
def fnDivBackUptoRow : OpenClaim := { program := "ytigfpkbdkdihbaa", sum := "04bada21141073406c89171e5b30f9fd3506d9975c87d2656a88cbea0f339afb", func := "loop.example/g00710/laws.FnDivBack", spec := "fnDivBack", apart := false, narrowed := true }
def FnDivBackUptoSaid : Prop := fnDivBackUptoRow.holds Try.pinned (OpenSpec.upto fnDivBackSpec)

/-- 'laws.FnExactReduce', WHERE WHAT IT READS IS OF BULK AT MOST 1048576: true; the input reads as it did. -/
def fnExactReduceUptoRow : OpenClaim := { program := "ytigfpkbdkdihbaa", sum := "04bada21141073406c89171e5b30f9fd3506d9975c87d2656a88cbea0f339afb", func := "loop.example/g00710/laws.FnExactReduce", spec := "fnExactReduce", apart := false, narrowed := true }
def FnExactReduceUptoSaid : Prop := fnExactReduceUptoRow.holds Try.pinned (OpenSpec.upto fnExactReduceSpec)

/-- 'laws.FnExactAdd', WHERE WHAT IT READS IS OF BULK AT MOST 1048576: true; the input reads as it did. -/
def fnExactAddUptoRow : OpenClaim := { program := "ytigfpkbdkdihbaa", sum := "04bada21141073406c89171e5b30f9fd3506d9975c87d2656a88cbea0f339afb", func := "loop.example/g00710/laws.FnExactAdd", spec := "fnExactAdd", apart := false, narrowed := true }
def FnExactAddUptoSaid : Prop := fnExactAddUptoRow.holds Try.pinned (OpenSpec.upto fnExactAddSpec)

/-- 'laws.FnExactMul', WHERE WHAT IT READS IS OF BULK AT MOST 1048576: true; the input reads as it did. -/
def fnExactMulUptoRow : OpenClaim := { program := "ytigfpkbdkdihbaa", sum := "04bada21141073406c89171e5b30f9fd3506d9975c87d2656a88cbea0f339afb", func := "loop.example/g00710/laws.FnExactMul", spec := "fnExactMul", apart := false, narrowed := true }
def FnExactMulUptoSaid : Prop := fnExactMulUptoRow.holds Try.pinned (OpenSpec.upto fnExactMulSpec)

/-- 'laws.FnExactSub', WHERE WHAT IT READS IS OF BULK AT MOST 1048576: true; the input reads as it did. -/
def fnExactSubUptoRow : OpenClaim := { program := "ytigfpkbdkdihbaa", sum := "04bada21141073406c89171e5b30f9fd3506d9975c87d2656a88cbea0f339afb", func := "loop.example/g00710/laws.FnExactSub", spec := "fnExactSub", apart := false, narrowed := true }
def FnExactSubUptoSaid : Prop := fnExactSubUptoRow.holds Try.pinned (OpenSpec.upto fnExactSubSpec)

/-- 'laws.FnExactInverse', WHERE WHAT IT READS IS OF BULK AT MOST 1048576: true; the input reads as it did. -/
def fnExactInverseUptoRow : OpenClaim := { program := "ytigfpkbdkdihbaa", sum := "04bada21141073406c89171e5b30f9fd3506d9975c87d2656a88cbea0f339afb", func := "loop.example/g00710/laws.FnExactInverse", spec := "fnExactInverse", apart := false, narrowed := true }
def FnExactInverseUptoSaid : Prop := fnExactInverseUptoRow.holds Try.pinned (OpenSpec.upto fnExactInverseSpec)

end Rows
end Go.Proofs.Ytigfpkbdkdihbaa
