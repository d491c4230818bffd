import Derived.Test.YtmkafmgbmbgogaaZFnPowModG
/- What the exported functions of the first chapter compute, of the program and of the reference, in one wording. -/
import Derived.Test.YtmkafmgbmbgogaaZFnPowModMa
import Derived.Test.YtmkafmgbmbgogaaZFnPowModMb
import Derived.Test.YtmkafmgbmbgogaaZFnPowModMc
namespace Go.Proofs.Ytmkafmgbmbgogaa.M
open Go.RowKit Go.Proofs.Ytmkafmgbmbgogaa.P Go.Proofs.YtmkafmgbmbgogaaW.PrintWords Go.Proofs.YtmkafmgbmbgogaaW.PrintLast Go.Proofs.YtmkafmgbmbgogaaW.PrintMore
set_option linter.unusedVariables false
set_option linter.unusedSimpArgs false


section
variable {f p g t : Int}
end
theorem Ev.const {α : Type} {x : Option α} {r : α} (h : x = some r) : Ev (fun _ => x) r := ⟨0, fun _ _ => h⟩

end Go.Proofs.Ytmkafmgbmbgogaa.M
