/- The program's RootOf returns what the reference's returns. No condition: for every argument. -/
import Derived.Test.YtohneiapknlpgaaMj
import Derived.Test.YtohneiapknlpgaaGYFnExactRootOf
namespace Go.Proofs.Ytohneiapknlpgaa.Pure
open Go.RowKit Go.Proofs.Ytohneiapknlpgaa.P Go.Proofs.Ytohneiapknlpgaa.M Go.Proofs.YtohneiapknlpgaaW.PrintWords Go.Proofs.YtohneiapknlpgaaW.PrintLast Go.Proofs.YtohneiapknlpgaaW.PrintMore
set_option linter.unusedVariables false
set_option linter.unusedSimpArgs false

theorem FnExactRootOf : laws_FnExactRootOf.Pure := by
  intro f k _ _
  rcases FI.cases f with ⟨p, g, t, h⟩ | h
  · by_cases hk : k < 0 ∨ t < k
    · exact same_ends (sRootOf_no h hk) (iRootOf_no h hk)
    · exact same_ends (sRootOf_ok h (by omega) (by omega)) (iRootOf_ok h (by omega) (by omega))
  · exact same_ends (sRootOf_nof h k) (iRootOf_nof h k)

end Go.Proofs.Ytohneiapknlpgaa.Pure
