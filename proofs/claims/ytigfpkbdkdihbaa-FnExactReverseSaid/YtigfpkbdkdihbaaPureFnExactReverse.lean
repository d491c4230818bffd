/- The program's Reverse returns what the reference's returns. No condition: for every argument. -/
import Derived.Test.YtigfpkbdkdihbaaMe
import Derived.Test.YtigfpkbdkdihbaaMd
import Derived.Test.YtigfpkbdkdihbaaGYFnExactReverse
namespace Go.Proofs.Ytigfpkbdkdihbaa.Pure
open Go.RowKit Go.Proofs.Ytigfpkbdkdihbaa.P Go.Proofs.Ytigfpkbdkdihbaa.M Go.Proofs.YtigfpkbdkdihbaaW.PrintWords Go.Proofs.YtigfpkbdkdihbaaW.PrintLast Go.Proofs.YtigfpkbdkdihbaaW.PrintMore
set_option linter.unusedVariables false
set_option linter.unusedSimpArgs false

theorem FnExactReverse : laws_FnExactReverse.Pure := by
  intro x K _ _
  by_cases h : K < 0 ∨ 9 < K ∨ x < 0 ∨ 2 ^ K.toNat ≤ x
  · exact same_ends (sReverse_no h) (iReverse_no h)
  · exact same_ends (sReverse_ok (by omega) (by omega) (by omega) (by omega)) (iReverse_ok (by omega) (by omega) (by omega) (by omega))

end Go.Proofs.Ytigfpkbdkdihbaa.Pure
