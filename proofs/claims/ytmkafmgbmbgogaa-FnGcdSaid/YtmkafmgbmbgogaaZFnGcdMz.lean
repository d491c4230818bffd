import Derived.Test.YtmkafmgbmbgogaaZFnGcdG
/- What PolyOk, Degree, EvalPoly and ShiftPoly come to, of the program and of the reference. -/
import Derived.Test.YtmkafmgbmbgogaaZFnGcdMa
import Derived.Test.YtmkafmgbmbgogaaZFnGcdMb
import Derived.Test.YtmkafmgbmbgogaaZFnGcdMc
import Derived.Test.YtmkafmgbmbgogaaZFnGcdMd
import Derived.Test.YtmkafmgbmbgogaaZFnGcdMh
import Derived.Test.YtmkafmgbmbgogaaZFnGcdMr
import Derived.Test.YtmkafmgbmbgogaaZFnGcdMx
import Derived.Test.YtmkafmgbmbgogaaZFnGcdMy
import Derived.Test.YtmkafmgbmbgogaaZFnGcdWWords
import Derived.Test.YtmkafmgbmbgogaaZFnGcdWMore
import Derived.Test.YtmkafmgbmbgogaaZFnGcd3
namespace Go.Proofs.Ytmkafmgbmbgogaa.M
open Go.RowKit Go.Proofs.Ytmkafmgbmbgogaa.P Go.Proofs.YtmkafmgbmbgogaaW.PrintWords Go.Proofs.YtmkafmgbmbgogaaW.PrintLast Go.Proofs.YtmkafmgbmbgogaaW.PrintMore
set_option linter.unusedVariables false
set_option linter.unusedSimpArgs false

section
variable {f p g t : Int}


/-! ### ShiftPoly -/
def sh (l : List Int) (s : Int) : List Int × Bool :=
  if l.length = 0 then ([], true) else if s < 0 then (l.drop (-s).toNat, true) else if 400 - (l.length : Int) < s then ([], false) else (List.replicate s.toNat 0 ++ l, true)
end

end Go.Proofs.Ytmkafmgbmbgogaa.M
