import Derived.Test.YtmkafmgbmbgogaaZFnEvalProductG
/- What the division of polynomials comes to, of the program and of the reference. -/
import Derived.Test.YtmkafmgbmbgogaaZFnEvalProductMa
import Derived.Test.YtmkafmgbmbgogaaZFnEvalProductMb
import Derived.Test.YtmkafmgbmbgogaaZFnEvalProductMc
import Derived.Test.YtmkafmgbmbgogaaZFnEvalProductMd
import Derived.Test.YtmkafmgbmbgogaaZFnEvalProductMh
import Derived.Test.YtmkafmgbmbgogaaZFnEvalProductMr
import Derived.Test.YtmkafmgbmbgogaaZFnEvalProductMx
import Derived.Test.YtmkafmgbmbgogaaZFnEvalProductMy
import Derived.Test.YtmkafmgbmbgogaaZFnEvalProductWWords
import Derived.Test.YtmkafmgbmbgogaaZFnEvalProductWMore
namespace Go.Proofs.Ytmkafmgbmbgogaa.M
open Go.RowKit Go.Proofs.Ytmkafmgbmbgogaa.P Go.Proofs.YtmkafmgbmbgogaaW.PrintWords Go.Proofs.YtmkafmgbmbgogaaW.PrintLast Go.Proofs.YtmkafmgbmbgogaaW.PrintMore
set_option linter.unusedVariables false
set_option linter.unusedSimpArgs false

section
variable {f p g t : Int}
end

end Go.Proofs.Ytmkafmgbmbgogaa.M
