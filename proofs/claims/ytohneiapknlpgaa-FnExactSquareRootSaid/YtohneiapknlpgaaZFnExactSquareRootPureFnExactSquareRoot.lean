import Derived.Test.YtohneiapknlpgaaG0
/- The program's SquareRoot returns what the reference's returns. No condition: for every argument. -/
import Derived.Test.YtohneiapknlpgaaZFnExactSquareRootMq
import Derived.Test.YtohneiapknlpgaaZFnExactSquareRoot2
namespace Go.Proofs.Ytohneiapknlpgaa.Pure
open Go.RowKit Go.Proofs.Ytohneiapknlpgaa.P Go.Proofs.Ytohneiapknlpgaa.M Go.Proofs.YtohneiapknlpgaaW.PrintWords Go.Proofs.YtohneiapknlpgaaW.PrintLast Go.Proofs.YtohneiapknlpgaaW.PrintMore
set_option linter.unusedVariables false
set_option linter.unusedSimpArgs false

theorem FnExactSquareRoot : laws_FnExactSquareRoot.Pure := by
  intro f a _ _
  rcases FI.cases f with ⟨p, g, t, h⟩ | h
  · by_cases ha : Cg p a 0
    · exact same_ends (sSqrt_zero h ha) (iSqrt_zero h ha)
    · obtain ⟨v, hv, h1, h2⟩ := sSqrt_key h ha
      by_cases he : Cg p ((a % p) ^ ((p.toNat - 1) / 2)) 1
      · obtain ⟨x, hx, ex⟩ := iSqrt_ok h ha he
        rw [hx.uniq h.isF (h1 he)] at ex
        exact same_ends hv ex
      · rw [h2 he] at hv
        exact same_ends hv (iSqrt_none h ha he)
  · exact same_ends (sSqrt_no h a) (iSqrt_no h a)

end Go.Proofs.Ytohneiapknlpgaa.Pure
