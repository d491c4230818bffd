/- The program's Power returns what the reference's returns. No condition: for every argument. -/
import Derived.Test.YtohneiapknlpgaaMd
import Derived.Test.YtohneiapknlpgaaGYFnExactPower
namespace Go.Proofs.Ytohneiapknlpgaa.Pure
open Go.RowKit Go.Proofs.Ytohneiapknlpgaa.P Go.Proofs.Ytohneiapknlpgaa.M Go.Proofs.YtohneiapknlpgaaW.PrintWords Go.Proofs.YtohneiapknlpgaaW.PrintLast Go.Proofs.YtohneiapknlpgaaW.PrintMore
set_option linter.unusedVariables false
set_option linter.unusedSimpArgs false

theorem FnExactPower : laws_FnExactPower.Pure := by
  intro f a e _ _ we
  have b := wf64 we
  rcases FI.cases f with ⟨p, g, t, h⟩ | h
  · by_cases ha : Cg p a 0
    · exact same_ends (Power_zero h ha e) (iPower_zero h ha b.1 b.2)
    · exact same_ends (Power_ok h ha b.1 b.2) (iPower_ok h ha b.1 b.2)
  · exact same_ends (Power_no h a e) (iPower_no h a e)

end Go.Proofs.Ytohneiapknlpgaa.Pure
