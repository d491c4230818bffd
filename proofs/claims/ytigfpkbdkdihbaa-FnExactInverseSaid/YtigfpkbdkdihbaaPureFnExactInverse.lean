/- The program's Inverse returns what the reference's returns. No condition: for every argument. -/
import Derived.Test.YtigfpkbdkdihbaaMd
import Derived.Test.YtigfpkbdkdihbaaGYFnExactInverse
namespace Go.Proofs.Ytigfpkbdkdihbaa.Pure
open Go.RowKit Go.Proofs.Ytigfpkbdkdihbaa.P Go.Proofs.Ytigfpkbdkdihbaa.M Go.Proofs.YtigfpkbdkdihbaaW.PrintWords Go.Proofs.YtigfpkbdkdihbaaW.PrintLast Go.Proofs.YtigfpkbdkdihbaaW.PrintMore
set_option linter.unusedVariables false
set_option linter.unusedSimpArgs false

theorem FnExactInverse : laws_FnExactInverse.Pure := by
  intro f a _ _
  rcases FI.cases f with ⟨p, g, t, h⟩ | h
  · by_cases ha : Cg p a 0
    · exact same_ends (Inverse_zero h ha) (iInverse_zero h ha)
    · exact same_ends (Inverse_ok h ha) (iInverse_ok h ha)
  · exact same_ends (Inverse_no h a) (iInverse_no h a)

end Go.Proofs.Ytigfpkbdkdihbaa.Pure
