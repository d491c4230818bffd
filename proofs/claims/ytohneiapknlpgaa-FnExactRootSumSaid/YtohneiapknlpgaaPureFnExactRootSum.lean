/- The program's RootSum returns what the reference's returns. No condition: for every argument. -/
import Derived.Test.YtohneiapknlpgaaMj
import Derived.Test.YtohneiapknlpgaaGYFnExactRootSum
namespace Go.Proofs.Ytohneiapknlpgaa.Pure
open Go.RowKit Go.Proofs.Ytohneiapknlpgaa.P Go.Proofs.Ytohneiapknlpgaa.M Go.Proofs.YtohneiapknlpgaaW.PrintWords Go.Proofs.YtohneiapknlpgaaW.PrintLast Go.Proofs.YtohneiapknlpgaaW.PrintMore
set_option linter.unusedVariables false
set_option linter.unusedSimpArgs false

theorem FnExactRootSum : laws_FnExactRootSum.Pure := by
  intro f k j _ _ _
  rcases FI.cases f with ⟨p, g, t, h⟩ | h
  · by_cases hk : k < 0 ∨ t < k ∨ 9 < k
    · exact same_ends (sRootSum_no h hk j) (iRootSum_no h hk j)
    · obtain ⟨K, rfl⟩ := Int.eq_ofNat_of_zero_le (show 0 ≤ k by omega)
      exact same_ends (sRootSum_ok h (by omega) (by omega) j) (iRootSum_ok h (by omega) (by omega) j)
  · exact same_ends (sRootSum_nof h k j) (iRootSum_nof h k j)

end Go.Proofs.Ytohneiapknlpgaa.Pure
