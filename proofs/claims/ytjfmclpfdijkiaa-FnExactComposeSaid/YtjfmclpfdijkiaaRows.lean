/-
  No cell of these rows narrows 'for every input' (looked for: loops, veiled, ifaces, maps, wideKeys, modest, calm, conditions, laid).
  DERIVED. THE GIVEN ROWS OF THIS SEAT. 12 by the template 'for every input the law returns true; each argument reads behind the call as it read before'; 0 by the template 'total and deterministic' (their statements: YtjfmclpfdijkiaaTotals.lean).
  GIVEN WITH THE SEED: the statements are not yours to turn. If you find one false, say at which input.
  Laid BY PROGRAM, IN A SANDBOX (cutbox-rows.mjs): the forced cells as the released guide's own fill.sh prints them over the translation 9965f3e79935c347… (all of the seat's roots in one cut). By AI agents, Wed Nov 11 2026. No macro, syntax, notation, axiom, sorry.
-/
import Derived.Test.YtjfmclpfdijkiaaChecked
import GoSem.Claim
import GoSem.ClaimJoined
import GoSem.ClaimMapViews
import Derived.JoinedTies
import Derived.KernelRfl
namespace Go.Proofs.Ytjfmclpfdijkiaa
/- THE CELL 'sum', in the pinned program and in every row, IS THE sha256 OF THE DUMP (.gsa) THAT YtjfmclpfdijkiaaProg.lean LOADS. Nothing in Lean hashes anything: it is a label: what it is worth is what the hold of that sum in a sandbox is worth. -/
noncomputable def Try.pinned : Pinned := { name := "ytjfmclpfdijkiaa", sum := "9965f3e79935c3475d19e7f7768de138b79ed89e0897e50badfc1ee09a46803e", checked := Try.checked }
namespace Rows
def none {H : Type} : Left H := { results := [], args := [] }

/-- 'laws.FnExactPolyOk': WHATEVER THE INPUT: true; the input reads as it did. -/
def fnExactPolyOkSpec : ChangeSpec := { name := "fnExactPolyOk", fn := fun _ => fun
  | [d1, d2] => { results := [.lit (.bool true)], args := [d1, d2] }
  | _ => none }
def fnExactPolyOkRow : OpenClaim := { program := "ytjfmclpfdijkiaa", sum := "9965f3e79935c3475d19e7f7768de138b79ed89e0897e50badfc1ee09a46803e", func := "loop.example/g00710/laws.FnExactPolyOk", spec := "fnExactPolyOk", apart := false }
def FnExactPolyOkSaid : Prop := fnExactPolyOkRow.holds Try.pinned (OpenSpec.ofChange fnExactPolyOkSpec)

/-- ITS FALSE NEIGHBOUR: 'it returns false'. Refute it at one input. -/
def fnExactPolyOkWrong : ChangeSpec := { name := "fnExactPolyOk", fn := fun _ => fun
  | [d1, d2] => { results := [.lit (.bool false)], args := [d1, d2] }
  | _ => none }
def FnExactPolyOkWrongFalsely : Prop := fnExactPolyOkRow.holds Try.pinned (OpenSpec.ofChange fnExactPolyOkWrong)

/-- 'laws.FnExactDegree': WHATEVER THE INPUT: true; the input reads as it did. -/
def fnExactDegreeSpec : ChangeSpec := { name := "fnExactDegree", fn := fun _ => fun
  | [d1, d2] => { results := [.lit (.bool true)], args := [d1, d2] }
  | _ => none }
def fnExactDegreeRow : OpenClaim := { program := "ytjfmclpfdijkiaa", sum := "9965f3e79935c3475d19e7f7768de138b79ed89e0897e50badfc1ee09a46803e", func := "loop.example/g00710/laws.FnExactDegree", spec := "fnExactDegree", apart := false }
def FnExactDegreeSaid : Prop := fnExactDegreeRow.holds Try.pinned (OpenSpec.ofChange fnExactDegreeSpec)

/-- ITS FALSE NEIGHBOUR: 'it returns false'. Refute it at one input. -/
def fnExactDegreeWrong : ChangeSpec := { name := "fnExactDegree", fn := fun _ => fun
  | [d1, d2] => { results := [.lit (.bool false)], args := [d1, d2] }
  | _ => none }
def FnExactDegreeWrongFalsely : Prop := fnExactDegreeRow.holds Try.pinned (OpenSpec.ofChange fnExactDegreeWrong)

/-- 'laws.FnExactTrim': WHATEVER THE INPUT: true; the input reads as it did. -/
def fnExactTrimSpec : ChangeSpec := { name := "fnExactTrim", fn := fun _ => fun
  | [d1, d2] => { results := [.lit (.bool true)], args := [d1, d2] }
  | _ => none }
def fnExactTrimRow : OpenClaim := { program := "ytjfmclpfdijkiaa", sum := "9965f3e79935c3475d19e7f7768de138b79ed89e0897e50badfc1ee09a46803e", func := "loop.example/g00710/laws.FnExactTrim", spec := "fnExactTrim", apart := false }
def FnExactTrimSaid : Prop := fnExactTrimRow.holds Try.pinned (OpenSpec.ofChange fnExactTrimSpec)

/-- ITS FALSE NEIGHBOUR: 'it returns false'. Refute it at one input. -/
def fnExactTrimWrong : ChangeSpec := { name := "fnExactTrim", fn := fun _ => fun
  | [d1, d2] => { results := [.lit (.bool false)], args := [d1, d2] }
  | _ => none }
def FnExactTrimWrongFalsely : Prop := fnExactTrimRow.holds Try.pinned (OpenSpec.ofChange fnExactTrimWrong)

/-- 'laws.FnExactShiftPoly': WHATEVER THE INPUT: true; the input reads as it did. -/
def fnExactShiftPolySpec : ChangeSpec := { name := "fnExactShiftPoly", fn := fun _ => fun
  | [d1, d2, d3] => { results := [.lit (.bool true)], args := [d1, d2, d3] }
  | _ => none }
def fnExactShiftPolyRow : OpenClaim := { program := "ytjfmclpfdijkiaa", sum := "9965f3e79935c3475d19e7f7768de138b79ed89e0897e50badfc1ee09a46803e", func := "loop.example/g00710/laws.FnExactShiftPoly", spec := "fnExactShiftPoly", apart := false }
def FnExactShiftPolySaid : Prop := fnExactShiftPolyRow.holds Try.pinned (OpenSpec.ofChange fnExactShiftPolySpec)

/-- ITS FALSE NEIGHBOUR: 'it returns false'. Refute it at one input. -/
def fnExactShiftPolyWrong : ChangeSpec := { name := "fnExactShiftPoly", fn := fun _ => fun
  | [d1, d2, d3] => { results := [.lit (.bool false)], args := [d1, d2, d3] }
  | _ => none }
def FnExactShiftPolyWrongFalsely : Prop := fnExactShiftPolyRow.holds Try.pinned (OpenSpec.ofChange fnExactShiftPolyWrong)

/-- 'laws.FnExactEvalPoly': WHATEVER THE INPUT: true; the input reads as it did. -/
def fnExactEvalPolySpec : ChangeSpec := { name := "fnExactEvalPoly", fn := fun _ => fun
  | [d1, d2, d3] => { results := [.lit (.bool true)], args := [d1, d2, d3] }
  | _ => none }
def fnExactEvalPolyRow : OpenClaim := { program := "ytjfmclpfdijkiaa", sum := "9965f3e79935c3475d19e7f7768de138b79ed89e0897e50badfc1ee09a46803e", func := "loop.example/g00710/laws.FnExactEvalPoly", spec := "fnExactEvalPoly", apart := false }
def FnExactEvalPolySaid : Prop := fnExactEvalPolyRow.holds Try.pinned (OpenSpec.ofChange fnExactEvalPolySpec)

/-- ITS FALSE NEIGHBOUR: 'it returns false'. Refute it at one input. -/
def fnExactEvalPolyWrong : ChangeSpec := { name := "fnExactEvalPoly", fn := fun _ => fun
  | [d1, d2, d3] => { results := [.lit (.bool false)], args := [d1, d2, d3] }
  | _ => none }
def FnExactEvalPolyWrongFalsely : Prop := fnExactEvalPolyRow.holds Try.pinned (OpenSpec.ofChange fnExactEvalPolyWrong)

/-- 'laws.FnExactScalePoly': WHATEVER THE INPUT: true; the input reads as it did. -/
def fnExactScalePolySpec : ChangeSpec := { name := "fnExactScalePoly", fn := fun _ => fun
  | [d1, d2, d3] => { results := [.lit (.bool true)], args := [d1, d2, d3] }
  | _ => none }
def fnExactScalePolyRow : OpenClaim := { program := "ytjfmclpfdijkiaa", sum := "9965f3e79935c3475d19e7f7768de138b79ed89e0897e50badfc1ee09a46803e", func := "loop.example/g00710/laws.FnExactScalePoly", spec := "fnExactScalePoly", apart := false }
def FnExactScalePolySaid : Prop := fnExactScalePolyRow.holds Try.pinned (OpenSpec.ofChange fnExactScalePolySpec)

/-- ITS FALSE NEIGHBOUR: 'it returns false'. Refute it at one input. -/
def fnExactScalePolyWrong : ChangeSpec := { name := "fnExactScalePoly", fn := fun _ => fun
  | [d1, d2, d3] => { results := [.lit (.bool false)], args := [d1, d2, d3] }
  | _ => none }
def FnExactScalePolyWrongFalsely : Prop := fnExactScalePolyRow.holds Try.pinned (OpenSpec.ofChange fnExactScalePolyWrong)

/-- 'laws.FnExactDerivative': WHATEVER THE INPUT: true; the input reads as it did. -/
def fnExactDerivativeSpec : ChangeSpec := { name := "fnExactDerivative", fn := fun _ => fun
  | [d1, d2] => { results := [.lit (.bool true)], args := [d1, d2] }
  | _ => none }
def fnExactDerivativeRow : OpenClaim := { program := "ytjfmclpfdijkiaa", sum := "9965f3e79935c3475d19e7f7768de138b79ed89e0897e50badfc1ee09a46803e", func := "loop.example/g00710/laws.FnExactDerivative", spec := "fnExactDerivative", apart := false }
def FnExactDerivativeSaid : Prop := fnExactDerivativeRow.holds Try.pinned (OpenSpec.ofChange fnExactDerivativeSpec)

/-- ITS FALSE NEIGHBOUR: 'it returns false'. Refute it at one input. -/
def fnExactDerivativeWrong : ChangeSpec := { name := "fnExactDerivative", fn := fun _ => fun
  | [d1, d2] => { results := [.lit (.bool false)], args := [d1, d2] }
  | _ => none }
def FnExactDerivativeWrongFalsely : Prop := fnExactDerivativeRow.holds Try.pinned (OpenSpec.ofChange fnExactDerivativeWrong)

/-- 'laws.FnExactMulPoly': WHATEVER THE INPUT: true; the input reads as it did. -/
def fnExactMulPolySpec : ChangeSpec := { name := "fnExactMulPoly", fn := fun _ => fun
  | [d1, d2, d3] => { results := [.lit (.bool true)], args := [d1, d2, d3] }
  | _ => none }
def fnExactMulPolyRow : OpenClaim := { program := "ytjfmclpfdijkiaa", sum := "9965f3e79935c3475d19e7f7768de138b79ed89e0897e50badfc1ee09a46803e", func := "loop.example/g00710/laws.FnExactMulPoly", spec := "fnExactMulPoly", apart := false }
def FnExactMulPolySaid : Prop := fnExactMulPolyRow.holds Try.pinned (OpenSpec.ofChange fnExactMulPolySpec)

/-- ITS FALSE NEIGHBOUR: 'it returns false'. Refute it at one input. -/
def fnExactMulPolyWrong : ChangeSpec := { name := "fnExactMulPoly", fn := fun _ => fun
  | [d1, d2, d3] => { results := [.lit (.bool false)], args := [d1, d2, d3] }
  | _ => none }
def FnExactMulPolyWrongFalsely : Prop := fnExactMulPolyRow.holds Try.pinned (OpenSpec.ofChange fnExactMulPolyWrong)

/-- 'laws.FnExactAddPoly': WHATEVER THE INPUT: true; the input reads as it did. -/
def fnExactAddPolySpec : ChangeSpec := { name := "fnExactAddPoly", fn := fun _ => fun
  | [d1, d2, d3] => { results := [.lit (.bool true)], args := [d1, d2, d3] }
  | _ => none }
def fnExactAddPolyRow : OpenClaim := { program := "ytjfmclpfdijkiaa", sum := "9965f3e79935c3475d19e7f7768de138b79ed89e0897e50badfc1ee09a46803e", func := "loop.example/g00710/laws.FnExactAddPoly", spec := "fnExactAddPoly", apart := false }
def FnExactAddPolySaid : Prop := fnExactAddPolyRow.holds Try.pinned (OpenSpec.ofChange fnExactAddPolySpec)

/-- ITS FALSE NEIGHBOUR: 'it returns false'. Refute it at one input. -/
def fnExactAddPolyWrong : ChangeSpec := { name := "fnExactAddPoly", fn := fun _ => fun
  | [d1, d2, d3] => { results := [.lit (.bool false)], args := [d1, d2, d3] }
  | _ => none }
def FnExactAddPolyWrongFalsely : Prop := fnExactAddPolyRow.holds Try.pinned (OpenSpec.ofChange fnExactAddPolyWrong)

/-- 'laws.FnExactSubPoly': WHATEVER THE INPUT: true; the input reads as it did. -/
def fnExactSubPolySpec : ChangeSpec := { name := "fnExactSubPoly", fn := fun _ => fun
  | [d1, d2, d3] => { results := [.lit (.bool true)], args := [d1, d2, d3] }
  | _ => none }
def fnExactSubPolyRow : OpenClaim := { program := "ytjfmclpfdijkiaa", sum := "9965f3e79935c3475d19e7f7768de138b79ed89e0897e50badfc1ee09a46803e", func := "loop.example/g00710/laws.FnExactSubPoly", spec := "fnExactSubPoly", apart := false }
def FnExactSubPolySaid : Prop := fnExactSubPolyRow.holds Try.pinned (OpenSpec.ofChange fnExactSubPolySpec)

/-- ITS FALSE NEIGHBOUR: 'it returns false'. Refute it at one input. -/
def fnExactSubPolyWrong : ChangeSpec := { name := "fnExactSubPoly", fn := fun _ => fun
  | [d1, d2, d3] => { results := [.lit (.bool false)], args := [d1, d2, d3] }
  | _ => none }
def FnExactSubPolyWrongFalsely : Prop := fnExactSubPolyRow.holds Try.pinned (OpenSpec.ofChange fnExactSubPolyWrong)

/-- 'laws.FnExactCompose': WHATEVER THE INPUT: true; the input reads as it did. -/
def fnExactComposeSpec : ChangeSpec := { name := "fnExactCompose", fn := fun _ => fun
  | [d1, d2, d3] => { results := [.lit (.bool true)], args := [d1, d2, d3] }
  | _ => none }
def fnExactComposeRow : OpenClaim := { program := "ytjfmclpfdijkiaa", sum := "9965f3e79935c3475d19e7f7768de138b79ed89e0897e50badfc1ee09a46803e", func := "loop.example/g00710/laws.FnExactCompose", spec := "fnExactCompose", apart := false }
def FnExactComposeSaid : Prop := fnExactComposeRow.holds Try.pinned (OpenSpec.ofChange fnExactComposeSpec)

/-- ITS FALSE NEIGHBOUR: 'it returns false'. Refute it at one input. -/
def fnExactComposeWrong : ChangeSpec := { name := "fnExactCompose", fn := fun _ => fun
  | [d1, d2, d3] => { results := [.lit (.bool false)], args := [d1, d2, d3] }
  | _ => none }
def FnExactComposeWrongFalsely : Prop := fnExactComposeRow.holds Try.pinned (OpenSpec.ofChange fnExactComposeWrong)

/-- 'laws.FnExactDivMod': WHATEVER THE INPUT: true; the input reads as it did. -/
def fnExactDivModSpec : ChangeSpec := { name := "fnExactDivMod", fn := fun _ => fun
  | [d1, d2, d3] => { results := [.lit (.bool true)], args := [d1, d2, d3] }
  | _ => none }
def fnExactDivModRow : OpenClaim := { program := "ytjfmclpfdijkiaa", sum := "9965f3e79935c3475d19e7f7768de138b79ed89e0897e50badfc1ee09a46803e", func := "loop.example/g00710/laws.FnExactDivMod", spec := "fnExactDivMod", apart := false }
def FnExactDivModSaid : Prop := fnExactDivModRow.holds Try.pinned (OpenSpec.ofChange fnExactDivModSpec)

/-- ITS FALSE NEIGHBOUR: 'it returns false'. Refute it at one input. -/
def fnExactDivModWrong : ChangeSpec := { name := "fnExactDivMod", fn := fun _ => fun
  | [d1, d2, d3] => { results := [.lit (.bool false)], args := [d1, d2, d3] }
  | _ => none }
def FnExactDivModWrongFalsely : Prop := fnExactDivModRow.holds Try.pinned (OpenSpec.ofChange fnExactDivModWrong)

/- THE SECOND FORM. 'bulk': how many values and letters a reading holds, each counted each time it is reached (what is shared counts as often as it is met; a slice's spare places count too). A statement '..UptoSaid' is the law's where the arguments, and the package variables that the reading takes, are together of bulk at most 1048576: NARROWER than '..Said'. Prove '..Said' where nothing that the law and all that it calls make is longer than what came in: it says more and counts as full. Else prove '..UptoSaid'. A law counts once. -/
mutual
def uptoBulk {H : Type} : DataW H → Nat
  | .lit (.string bytes) => bytes.length + 1
  | .lit _ => 1
  | .nil => 1
  | .ptr d => uptoBulk d + 1
  | .slice elems spare => uptoBulkAll elems + uptoBulkAll spare + 1
  | .agg parts => uptoBulkAll parts + 1
  | .iface _ d => uptoBulk d + 1
  | .map entries => uptoBulkEntries entries + 1
  | .held _ => 1
def uptoBulkAll {H : Type} : List (DataW H) → Nat
  | [] => 0
  | d :: r => uptoBulk d + uptoBulkAll r
def uptoBulkEntries {H : Type} : List (Lit × DataW H) → Nat
  | [] => 0
  | x :: r => uptoBulkEntry x + uptoBulkEntries r
def uptoBulkEntry {H : Type} : Lit × DataW H → Nat
  | (.string bytes, d) => bytes.length + uptoBulk d + 1
  | (_, d) => uptoBulk d + 1
 end
def uptoSmall : (H : Type) → List (DataW H) → Bool := fun _ ds => decide (uptoBulkAll ds ≤ 1048576)
def OpenSpec.upto (s : _root_.Go.ChangeSpec) : _root_.Go.OpenSpec := { _root_.Go.OpenSpec.ofChange s with cond := some uptoSmall }

/-- 'laws.FnExactPolyOk', WHERE WHAT IT READS IS OF BULK AT MOST 1048576: true; the input reads as it did. -/
def fnExactPolyOkUptoRow : OpenClaim := { program := "ytjfmclpfdijkiaa", sum := "9965f3e79935c3475d19e7f7768de138b79ed89e0897e50badfc1ee09a46803e", func := "loop.example/g00710/laws.FnExactPolyOk", spec := "fnExactPolyOk", apart := false, narrowed := true }
def FnExactPolyOkUptoSaid : Prop := fnExactPolyOkUptoRow.holds Try.pinned (OpenSpec.upto fnExactPolyOkSpec)

/-- 'laws.FnExactDegree', WHERE WHAT IT READS IS OF BULK AT MOST 1048576: true; the input reads as it did. -/
def fnExactDegreeUptoRow : OpenClaim := { program := "ytjfmclpfdijkiaa", sum := "9965f3e79935c3475d19e7f7768de138b79ed89e0897e50badfc1ee09a46803e", func := "loop.example/g00710/laws.FnExactDegree", spec := "fnExactDegree", apart := false, narrowed := true }
def FnExactDegreeUptoSaid : Prop := fnExactDegreeUptoRow.holds Try.pinned (OpenSpec.upto fnExactDegreeSpec)

/-- 'laws.FnExactTrim', WHERE WHAT IT READS IS OF BULK AT MOST 1048576: true; the input reads as it did. -/
def fnExactTrimUptoRow : OpenClaim := { program := "ytjfmclpfdijkiaa", sum := "9965f3e79935c3475d19e7f7768de138b79ed89e0897e50badfc1ee09a46803e", func := "loop.example/g00710/laws.FnExactTrim", spec := "fnExactTrim", apart := false, narrowed := true }
def FnExactTrimUptoSaid : Prop := fnExactTrimUptoRow.holds Try.pinned (OpenSpec.upto fnExactTrimSpec)

/-- 'laws.FnExactShiftPoly', WHERE WHAT IT READS IS OF BULK AT MOST 1048576: true; the input reads as it did. -/
def fnExactShiftPolyUptoRow : OpenClaim := { program := "ytjfmclpfdijkiaa", sum := "9965f3e79935c3475d19e7f7768de138b79ed89e0897e50badfc1ee09a46803e", func := "loop.example/g00710/laws.FnExactShiftPoly", spec := "fnExactShiftPoly", apart := false, narrowed := true }
def FnExactShiftPolyUptoSaid : Prop := fnExactShiftPolyUptoRow.holds Try.pinned (OpenSpec.upto fnExactShiftPolySpec)

/-- 'laws.FnExactEvalPoly', WHERE WHAT IT READS IS OF BULK AT MOST 1048576: true; the input reads as it did. -/
def fnExactEvalPolyUptoRow : OpenClaim := { program := "ytjfmclpfdijkiaa", sum := "9965f3e79935c3475d19e7f7768de138b79ed89e0897e50badfc1ee09a46803e", func := "loop.example/g00710/laws.FnExactEvalPoly", spec := "fnExactEvalPoly", apart := false, narrowed := true }
def FnExactEvalPolyUptoSaid : Prop := fnExactEvalPolyUptoRow.holds Try.pinned (OpenSpec.upto fnExactEvalPolySpec)

/-- 'laws.FnExactScalePoly', WHERE WHAT IT READS IS OF BULK AT MOST 1048576: true; the input reads as it did. -/
def fnExactScalePolyUptoRow : OpenClaim := { program := "ytjfmclpfdijkiaa", sum := "9965f3e79935c3475d19e7f7768de138b79ed89e0897e50badfc1ee09a46803e", func := "loop.example/g00710/laws.FnExactScalePoly", spec := "fnExactScalePoly", apart := false, narrowed := true }
def FnExactScalePolyUptoSaid : Prop := fnExactScalePolyUptoRow.holds Try.pinned (OpenSpec.upto fnExactScalePolySpec)

/-- 'laws.FnExactDerivative', WHERE WHAT IT READS IS OF BULK AT MOST 1048576: true; the input reads as it did. -/
def fnExactDerivativeUptoRow : OpenClaim := { program := "ytjfmclpfdijkiaa", sum := "9965f3e79935c3475d19e7f7768de138b79ed89e0897e50badfc1ee09a46803e", func := "loop.example/g00710/laws.FnExactDerivative", spec := "fnExactDerivative", apart := false, narrowed := true }
def FnExactDerivativeUptoSaid : Prop := fnExactDerivativeUptoRow.holds Try.pinned (OpenSpec.upto fnExactDerivativeSpec)

/-- 'laws.FnExactMulPoly', WHERE WHAT IT READS IS OF BULK AT MOST 1048576: true; the input reads as it did. -/
def fnExactMulPolyUptoRow : OpenClaim := { program := "ytjfmclpfdijkiaa", sum := "9965f3e79935c3475d19e7f7768de138b79ed89e0897e50badfc1ee09a46803e", func := "loop.example/g00710/laws.FnExactMulPoly", spec := "fnExactMulPoly", apart := false, narrowed := true }
def FnExactMulPolyUptoSaid : Prop := fnExactMulPolyUptoRow.holds Try.pinned (OpenSpec.upto fnExactMulPolySpec)

/-- 'laws.FnExactAddPoly', WHERE WHAT IT READS IS OF BULK AT MOST 1048576: true; the input reads as it did. -/
def fnExactAddPolyUptoRow : OpenClaim := { program := "ytjfmclpfdijkiaa", sum := "9965f3e79935c3475d19e7f7768de138b79ed89e0897e50badfc1ee09a46803e", func := "loop.example/g00710/laws.FnExactAddPoly", spec := "fnExactAddPoly", apart := false, narrowed := true }
def FnExactAddPolyUptoSaid : Prop := fnExactAddPolyUptoRow.holds Try.pinned (OpenSpec.upto fnExactAddPolySpec)

/-- 'laws.FnExactSubPoly', WHERE WHAT IT READS IS OF BULK AT MOST 1048576: true; the input reads as it did. -/
def fnExactSubPolyUptoRow : OpenClaim := { program := "ytjfmclpfdijkiaa", sum := "9965f3e79935c3475d19e7f7768de138b79ed89e0897e50badfc1ee09a46803e", func := "loop.example/g00710/laws.FnExactSubPoly", spec := "fnExactSubPoly", apart := false, narrowed := true }
def FnExactSubPolyUptoSaid : Prop := fnExactSubPolyUptoRow.holds Try.pinned (OpenSpec.upto fnExactSubPolySpec)

/-- 'laws.FnExactCompose', WHERE WHAT IT READS IS OF BULK AT MOST 1048576: true; the input reads as it did. -/
def fnExactComposeUptoRow : OpenClaim := { program := "ytjfmclpfdijkiaa", sum := "9965f3e79935c3475d19e7f7768de138b79ed89e0897e50badfc1ee09a46803e", func := "loop.example/g00710/laws.FnExactCompose", spec := "fnExactCompose", apart := false, narrowed := true }
def FnExactComposeUptoSaid : Prop := fnExactComposeUptoRow.holds Try.pinned (OpenSpec.upto fnExactComposeSpec)

/-- 'laws.FnExactDivMod', WHERE WHAT IT READS IS OF BULK AT MOST 1048576: true; the input reads as it did. -/
def fnExactDivModUptoRow : OpenClaim := { program := "ytjfmclpfdijkiaa", sum := "9965f3e79935c3475d19e7f7768de138b79ed89e0897e50badfc1ee09a46803e", func := "loop.example/g00710/laws.FnExactDivMod", spec := "fnExactDivMod", apart := false, narrowed := true }
def FnExactDivModUptoSaid : Prop := fnExactDivModUptoRow.holds Try.pinned (OpenSpec.upto fnExactDivModSpec)

end Rows
end Go.Proofs.Ytjfmclpfdijkiaa
