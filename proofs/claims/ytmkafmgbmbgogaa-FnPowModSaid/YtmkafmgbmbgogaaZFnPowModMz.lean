import Derived.Test.YtmkafmgbmbgogaaZFnPowModG
/- What PolyOk, Degree, EvalPoly and ShiftPoly come to, of the program and of the reference. -/
import Derived.Test.YtmkafmgbmbgogaaZFnPowModMa
import Derived.Test.YtmkafmgbmbgogaaZFnPowModMb
import Derived.Test.YtmkafmgbmbgogaaZFnPowModMc
import Derived.Test.YtmkafmgbmbgogaaZFnPowModMd
import Derived.Test.YtmkafmgbmbgogaaZFnPowModMh
import Derived.Test.YtmkafmgbmbgogaaZFnPowModMr
import Derived.Test.YtmkafmgbmbgogaaZFnPowModMx
import Derived.Test.YtmkafmgbmbgogaaZFnPowModMy
import Derived.Test.YtmkafmgbmbgogaaZFnPowModWWords
import Derived.Test.YtmkafmgbmbgogaaZFnPowModWMore
namespace Go.Proofs.Ytmkafmgbmbgogaa.M
open Go.RowKit Go.Proofs.Ytmkafmgbmbgogaa.P Go.Proofs.YtmkafmgbmbgogaaW.PrintWords Go.Proofs.YtmkafmgbmbgogaaW.PrintLast Go.Proofs.YtmkafmgbmbgogaaW.PrintMore
set_option linter.unusedVariables false
set_option linter.unusedSimpArgs false

section
variable {f p g t : Int}


/-! ### ShiftPoly -/
def sh (l : List Int) (s : Int) : List Int × Bool :=
  if l.length = 0 then ([], true) else if s < 0 then (l.drop (-s).toNat, true) else if 400 - (l.length : Int) < s then ([], false) else (List.replicate s.toNat 0 ++ l, true)
end

end Go.Proofs.Ytmkafmgbmbgogaa.M
