/-
  No cell of these rows narrows 'for every input' (looked for: loops, veiled, ifaces, maps, wideKeys, modest, calm, conditions, laid).
  DERIVED. THE GIVEN ROWS OF THIS SEAT. 6 by the template 'for every input the law returns true; each argument reads behind the call as it read before'; 0 by the template 'total and deterministic' (their statements: YtmkafmgbmbgogaaTotals.lean).
  GIVEN WITH THE SEED: the statements are not yours to turn. If you find one false, say at which input.
  Laid BY PROGRAM, IN A SANDBOX (cutbox-rows.mjs): the forced cells as the released guide's own fill.sh prints them over the translation 750af2e39f7a2cc7… (all of the seat's roots in one cut). By AI agents, Wed Nov 11 2026. No macro, syntax, notation, axiom, sorry.
-/
import Derived.Test.YtmkafmgbmbgogaaChecked
import GoSem.Claim
import GoSem.ClaimJoined
import GoSem.ClaimMapViews
import Derived.JoinedTies
import Derived.KernelRfl
namespace Go.Proofs.Ytmkafmgbmbgogaa
/- THE CELL 'sum', in the pinned program and in every row, IS THE sha256 OF THE DUMP (.gsa) THAT YtmkafmgbmbgogaaProg.lean LOADS. Nothing in Lean hashes anything: it is a label: what it is worth is what the hold of that sum in a sandbox is worth. -/
noncomputable def Try.pinned : Pinned := { name := "ytmkafmgbmbgogaa", sum := "750af2e39f7a2cc71dcbb841b48528262d67fb87dcba8361745745c8fb53ec51", checked := Try.checked }
namespace Rows
def none {H : Type} : Left H := { results := [], args := [] }

/-- 'laws.FnExactGcdPoly': WHATEVER THE INPUT: true; the input reads as it did. -/
def fnExactGcdPolySpec : ChangeSpec := { name := "fnExactGcdPoly", fn := fun _ => fun
  | [d1, d2, d3] => { results := [.lit (.bool true)], args := [d1, d2, d3] }
  | _ => none }
def fnExactGcdPolyRow : OpenClaim := { program := "ytmkafmgbmbgogaa", sum := "750af2e39f7a2cc71dcbb841b48528262d67fb87dcba8361745745c8fb53ec51", func := "loop.example/g00710/laws.FnExactGcdPoly", spec := "fnExactGcdPoly", apart := false }
def FnExactGcdPolySaid : Prop := fnExactGcdPolyRow.holds Try.pinned (OpenSpec.ofChange fnExactGcdPolySpec)

/-- ITS FALSE NEIGHBOUR: 'it returns false'. Refute it at one input. -/
def fnExactGcdPolyWrong : ChangeSpec := { name := "fnExactGcdPoly", fn := fun _ => fun
  | [d1, d2, d3] => { results := [.lit (.bool false)], args := [d1, d2, d3] }
  | _ => none }
def FnExactGcdPolyWrongFalsely : Prop := fnExactGcdPolyRow.holds Try.pinned (OpenSpec.ofChange fnExactGcdPolyWrong)

/-- 'laws.FnExactPowMod': WHATEVER THE INPUT: true; the input reads as it did. -/
def fnExactPowModSpec : ChangeSpec := { name := "fnExactPowMod", fn := fun _ => fun
  | [d1, d2, d3, d4] => { results := [.lit (.bool true)], args := [d1, d2, d3, d4] }
  | _ => none }
def fnExactPowModRow : OpenClaim := { program := "ytmkafmgbmbgogaa", sum := "750af2e39f7a2cc71dcbb841b48528262d67fb87dcba8361745745c8fb53ec51", func := "loop.example/g00710/laws.FnExactPowMod", spec := "fnExactPowMod", apart := false }
def FnExactPowModSaid : Prop := fnExactPowModRow.holds Try.pinned (OpenSpec.ofChange fnExactPowModSpec)

/-- ITS FALSE NEIGHBOUR: 'it returns false'. Refute it at one input. -/
def fnExactPowModWrong : ChangeSpec := { name := "fnExactPowMod", fn := fun _ => fun
  | [d1, d2, d3, d4] => { results := [.lit (.bool false)], args := [d1, d2, d3, d4] }
  | _ => none }
def FnExactPowModWrongFalsely : Prop := fnExactPowModRow.holds Try.pinned (OpenSpec.ofChange fnExactPowModWrong)

/-- 'laws.FnExactSquareFree': WHATEVER THE INPUT: true; the input reads as it did. -/
def fnExactSquareFreeSpec : ChangeSpec := { name := "fnExactSquareFree", fn := fun _ => fun
  | [d1, d2] => { results := [.lit (.bool true)], args := [d1, d2] }
  | _ => none }
def fnExactSquareFreeRow : OpenClaim := { program := "ytmkafmgbmbgogaa", sum := "750af2e39f7a2cc71dcbb841b48528262d67fb87dcba8361745745c8fb53ec51", func := "loop.example/g00710/laws.FnExactSquareFree", spec := "fnExactSquareFree", apart := false }
def FnExactSquareFreeSaid : Prop := fnExactSquareFreeRow.holds Try.pinned (OpenSpec.ofChange fnExactSquareFreeSpec)

/-- ITS FALSE NEIGHBOUR: 'it returns false'. Refute it at one input. -/
def fnExactSquareFreeWrong : ChangeSpec := { name := "fnExactSquareFree", fn := fun _ => fun
  | [d1, d2] => { results := [.lit (.bool false)], args := [d1, d2] }
  | _ => none }
def FnExactSquareFreeWrongFalsely : Prop := fnExactSquareFreeRow.holds Try.pinned (OpenSpec.ofChange fnExactSquareFreeWrong)

/-- 'laws.FnEvalProduct': WHATEVER THE INPUT: true; the input reads as it did. -/
def fnEvalProductSpec : ChangeSpec := { name := "fnEvalProduct", fn := fun _ => fun
  | [d] => { results := [.lit (.bool true)], args := [d] }
  | _ => none }
def fnEvalProductRow : OpenClaim := { program := "ytmkafmgbmbgogaa", sum := "750af2e39f7a2cc71dcbb841b48528262d67fb87dcba8361745745c8fb53ec51", func := "loop.example/g00710/laws.FnEvalProduct", spec := "fnEvalProduct", apart := false }
def FnEvalProductSaid : Prop := fnEvalProductRow.holds Try.pinned (OpenSpec.ofChange fnEvalProductSpec)

/-- ITS FALSE NEIGHBOUR: 'it returns false'. Refute it at one input. -/
def fnEvalProductWrong : ChangeSpec := { name := "fnEvalProduct", fn := fun _ => fun
  | [d] => { results := [.lit (.bool false)], args := [d] }
  | _ => none }
def FnEvalProductWrongFalsely : Prop := fnEvalProductRow.holds Try.pinned (OpenSpec.ofChange fnEvalProductWrong)

/-- 'laws.FnGcd': WHATEVER THE INPUT: true; the input reads as it did. -/
def fnGcdSpec : ChangeSpec := { name := "fnGcd", fn := fun _ => fun
  | [d] => { results := [.lit (.bool true)], args := [d] }
  | _ => none }
def fnGcdRow : OpenClaim := { program := "ytmkafmgbmbgogaa", sum := "750af2e39f7a2cc71dcbb841b48528262d67fb87dcba8361745745c8fb53ec51", func := "loop.example/g00710/laws.FnGcd", spec := "fnGcd", apart := false }
def FnGcdSaid : Prop := fnGcdRow.holds Try.pinned (OpenSpec.ofChange fnGcdSpec)

/-- ITS FALSE NEIGHBOUR: 'it returns false'. Refute it at one input. -/
def fnGcdWrong : ChangeSpec := { name := "fnGcd", fn := fun _ => fun
  | [d] => { results := [.lit (.bool false)], args := [d] }
  | _ => none }
def FnGcdWrongFalsely : Prop := fnGcdRow.holds Try.pinned (OpenSpec.ofChange fnGcdWrong)

/-- 'laws.FnPowMod': WHATEVER THE INPUT: true; the input reads as it did. -/
def fnPowModSpec : ChangeSpec := { name := "fnPowMod", fn := fun _ => fun
  | [d] => { results := [.lit (.bool true)], args := [d] }
  | _ => none }
def fnPowModRow : OpenClaim := { program := "ytmkafmgbmbgogaa", sum := "750af2e39f7a2cc71dcbb841b48528262d67fb87dcba8361745745c8fb53ec51", func := "loop.example/g00710/laws.FnPowMod", spec := "fnPowMod", apart := false }
def FnPowModSaid : Prop := fnPowModRow.holds Try.pinned (OpenSpec.ofChange fnPowModSpec)

/-- ITS FALSE NEIGHBOUR: 'it returns false'. Refute it at one input. -/
def fnPowModWrong : ChangeSpec := { name := "fnPowMod", fn := fun _ => fun
  | [d] => { results := [.lit (.bool false)], args := [d] }
  | _ => none }
def FnPowModWrongFalsely : Prop := fnPowModRow.holds Try.pinned (OpenSpec.ofChange fnPowModWrong)

/- THE SECOND FORM. 'bulk': how many values and letters a reading holds, each counted each time it is reached (what is shared counts as often as it is met; a slice's spare places count too). A statement '..UptoSaid' is the law's where the arguments, and the package variables that the reading takes, are together of bulk at most 1048576: NARROWER than '..Said'. Prove '..Said' where nothing that the law and all that it calls make is longer than what came in: it says more and counts as full. Else prove '..UptoSaid'. A law counts once. -/
mutual
def uptoBulk {H : Type} : DataW H → Nat
  | .lit (.string bytes) => bytes.length + 1
  | .lit _ => 1
  | .nil => 1
  | .ptr d => uptoBulk d + 1
  | .slice elems spare => uptoBulkAll elems + uptoBulkAll spare + 1
  | .agg parts => uptoBulkAll parts + 1
  | .iface _ d => uptoBulk d + 1
  | .map entries => uptoBulkEntries entries + 1
  | .held _ => 1
def uptoBulkAll {H : Type} : List (DataW H) → Nat
  | [] => 0
  | d :: r => uptoBulk d + uptoBulkAll r
def uptoBulkEntries {H : Type} : List (Lit × DataW H) → Nat
  | [] => 0
  | x :: r => uptoBulkEntry x + uptoBulkEntries r
def uptoBulkEntry {H : Type} : Lit × DataW H → Nat
  | (.string bytes, d) => bytes.length + uptoBulk d + 1
  | (_, d) => uptoBulk d + 1
 end
def uptoSmall : (H : Type) → List (DataW H) → Bool := fun _ ds => decide (uptoBulkAll ds ≤ 1048576)
def OpenSpec.upto (s : _root_.Go.ChangeSpec) : _root_.Go.OpenSpec := { _root_.Go.OpenSpec.ofChange s with cond := some uptoSmall }

/-- 'laws.FnExactGcdPoly', WHERE WHAT IT READS IS OF BULK AT MOST 1048576: true; the input reads as it did. -/
def fnExactGcdPolyUptoRow : OpenClaim := { program := "ytmkafmgbmbgogaa", sum := "750af2e39f7a2cc71dcbb841b48528262d67fb87dcba8361745745c8fb53ec51", func := "loop.example/g00710/laws.FnExactGcdPoly", spec := "fnExactGcdPoly", apart := false, narrowed := true }
def FnExactGcdPolyUptoSaid : Prop := fnExactGcdPolyUptoRow.holds Try.pinned (OpenSpec.upto fnExactGcdPolySpec)

/-- 'laws.FnExactPowMod', WHERE WHAT IT READS IS OF BULK AT MOST 1048576: true; the input reads as it did. -/
def fnExactPowModUptoRow : OpenClaim := { program := "ytmkafmgbmbgogaa", sum := "750af2e39f7a2cc71dcbb841b48528262d67fb87dcba8361745745c8fb53ec51", func := "loop.example/g00710/laws.FnExactPowMod", spec := "fnExactPowMod", apart := false, narrowed := true }
def FnExactPowModUptoSaid : Prop := fnExactPowModUptoRow.holds Try.pinned (OpenSpec.upto fnExactPowModSpec)

/-- 'laws.FnExactSquareFree', WHERE WHAT IT READS IS OF BULK AT MOST 1048576: true; the input reads as it did. -/
def fnExactSquareFreeUptoRow : OpenClaim := { program := "ytmkafmgbmbgogaa", sum := "750af2e39f7a2cc71dcbb841b48528262d67fb87dcba8361745745c8fb53ec51", func := "loop.example/g00710/laws.FnExactSquareFree", spec := "fnExactSquareFree", apart := false, narrowed := true }
def FnExactSquareFreeUptoSaid : Prop := fnExactSquareFreeUptoRow.holds Try.pinned (OpenSpec.upto fnExactSquareFreeSpec)

/-- 'laws.FnEvalProduct', WHERE WHAT IT READS IS OF BULK AT MOST 1048576: true; the input reads as it did. -/
def fnEvalProductUptoRow : OpenClaim := { program := "ytmkafmgbmbgogaa", sum := "750af2e39f7a2cc71dcbb841b48528262d67fb87dcba8361745745c8fb53ec51", func := "loop.example/g00710/laws.FnEvalProduct", spec := "fnEvalProduct", apart := false, narrowed := true }
def FnEvalProductUptoSaid : Prop := fnEvalProductUptoRow.holds Try.pinned (OpenSpec.upto fnEvalProductSpec)

/-- 'laws.FnGcd', WHERE WHAT IT READS IS OF BULK AT MOST 1048576: true; the input reads as it did. -/
def fnGcdUptoRow : OpenClaim := { program := "ytmkafmgbmbgogaa", sum := "750af2e39f7a2cc71dcbb841b48528262d67fb87dcba8361745745c8fb53ec51", func := "loop.example/g00710/laws.FnGcd", spec := "fnGcd", apart := false, narrowed := true }
def FnGcdUptoSaid : Prop := fnGcdUptoRow.holds Try.pinned (OpenSpec.upto fnGcdSpec)

/-- 'laws.FnPowMod', WHERE WHAT IT READS IS OF BULK AT MOST 1048576: true; the input reads as it did. -/
def fnPowModUptoRow : OpenClaim := { program := "ytmkafmgbmbgogaa", sum := "750af2e39f7a2cc71dcbb841b48528262d67fb87dcba8361745745c8fb53ec51", func := "loop.example/g00710/laws.FnPowMod", spec := "fnPowMod", apart := false, narrowed := true }
def FnPowModUptoSaid : Prop := fnPowModUptoRow.holds Try.pinned (OpenSpec.upto fnPowModSpec)

end Rows
end Go.Proofs.Ytmkafmgbmbgogaa
