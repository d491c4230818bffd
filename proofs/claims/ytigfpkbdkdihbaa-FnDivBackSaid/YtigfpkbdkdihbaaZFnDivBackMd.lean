import Derived.Test.YtigfpkbdkdihbaaZFnDivBackG
/- What the exported functions of the first chapter compute, of the program and of the reference, in one wording. -/
import Derived.Test.YtigfpkbdkdihbaaZFnDivBackMa
import Derived.Test.YtigfpkbdkdihbaaZFnDivBackMb
import Derived.Test.YtigfpkbdkdihbaaZFnDivBackMc
namespace Go.Proofs.Ytigfpkbdkdihbaa.M
open Go.RowKit Go.Proofs.Ytigfpkbdkdihbaa.P Go.Proofs.YtigfpkbdkdihbaaW.PrintWords Go.Proofs.YtigfpkbdkdihbaaW.PrintLast Go.Proofs.YtigfpkbdkdihbaaW.PrintMore
set_option linter.unusedVariables false
set_option linter.unusedSimpArgs false


section
variable {f p g t : Int}
end

end Go.Proofs.Ytigfpkbdkdihbaa.M
