import Derived.Test.YtigfpkbdkdihbaaZFnDivBackG
/- Words on shifts and masks, the logarithm of two and the reversal of bits: plain, and what the loops of the program and of the reference compute. -/
import Derived.KernelRfl
import Derived.Laws.BitsLemmas
import Derived.Test.YtigfpkbdkdihbaaZFnDivBackMa
import Derived.Test.YtigfpkbdkdihbaaZFnDivBackMb
import Derived.Test.YtigfpkbdkdihbaaZFnDivBackWWords
import Derived.Test.YtigfpkbdkdihbaaZFnDivBackWMore
namespace Go.Proofs.Ytigfpkbdkdihbaa.M
open Go.RowKit Go.Proofs.Ytigfpkbdkdihbaa.P Go.Proofs.YtigfpkbdkdihbaaW.PrintWords Go.Proofs.YtigfpkbdkdihbaaW.PrintLast Go.Proofs.YtigfpkbdkdihbaaW.PrintMore
set_option linter.unusedVariables false
set_option linter.unusedSimpArgs false

theorem wrap_i64_id {x : Int} (h : -9223372036854775808 ≤ x) (h' : x ≤ 9223372036854775807) : IntKind.i64.wrap x = x := by
  rw [IntKind.wrap_i64]; omega



end Go.Proofs.Ytigfpkbdkdihbaa.M
