/- The program's Order returns what the reference's returns. No condition: for every argument. -/
import Derived.Test.YtohneiapknlpgaaMo
import Derived.Test.YtohneiapknlpgaaGYFnExactOrder
namespace Go.Proofs.Ytohneiapknlpgaa.Pure
open Go.RowKit Go.Proofs.Ytohneiapknlpgaa.P Go.Proofs.Ytohneiapknlpgaa.M Go.Proofs.YtohneiapknlpgaaW.PrintWords Go.Proofs.YtohneiapknlpgaaW.PrintLast Go.Proofs.YtohneiapknlpgaaW.PrintMore
set_option linter.unusedVariables false
set_option linter.unusedSimpArgs false

theorem FnExactOrder : laws_FnExactOrder.Pure := by
  intro f a _ _
  rcases FI.cases f with ⟨p, g, t, h⟩ | h
  · by_cases ha : Cg p a 0
    · exact same_ends (sOrder_zero h ha) (iOrder_zero h ha)
    · obtain ⟨x, hx, ex⟩ := sOrder_ok h ha
      obtain ⟨y, hy, _, ey⟩ := iOrder_ok h ha
      rw [hy.uniq hx] at ey
      exact same_ends ex ey
  · exact same_ends (sOrder_no h a) (iOrder_no h a)

end Go.Proofs.Ytohneiapknlpgaa.Pure
