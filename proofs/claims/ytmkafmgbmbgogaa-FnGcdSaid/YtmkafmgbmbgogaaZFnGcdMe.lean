import Derived.Test.YtmkafmgbmbgogaaZFnGcdG
/- Words on shifts and masks, the logarithm of two and the reversal of bits: plain, and what the loops of the program and of the reference compute. -/
import Derived.KernelRfl
import Derived.Laws.BitsLemmas
import Derived.Test.YtmkafmgbmbgogaaZFnGcdMa
import Derived.Test.YtmkafmgbmbgogaaZFnGcdMb
import Derived.Test.YtmkafmgbmbgogaaZFnGcdWWords
import Derived.Test.YtmkafmgbmbgogaaZFnGcdWMore
namespace Go.Proofs.Ytmkafmgbmbgogaa.M
open Go.RowKit Go.Proofs.Ytmkafmgbmbgogaa.P Go.Proofs.YtmkafmgbmbgogaaW.PrintWords Go.Proofs.YtmkafmgbmbgogaaW.PrintLast Go.Proofs.YtmkafmgbmbgogaaW.PrintMore
set_option linter.unusedVariables false
set_option linter.unusedSimpArgs false

theorem wrap_i64_id {x : Int} (h : -9223372036854775808 ≤ x) (h' : x ≤ 9223372036854775807) : IntKind.i64.wrap x = x := by
  rw [IntKind.wrap_i64]; omega

/-! ### the logarithm -/
/-- k for 2^k up to 512, else -1. -/
def lg (x : Int) : Int :=
  if x = 1 then 0 else if x = 2 then 1 else if x = 4 then 2 else if x = 8 then 3 else if x = 16 then 4 else if x = 32 then 5 else if x = 64 then 6 else if x = 128 then 7 else if x = 256 then 8 else if x = 512 then 9 else -1


end Go.Proofs.Ytmkafmgbmbgogaa.M
