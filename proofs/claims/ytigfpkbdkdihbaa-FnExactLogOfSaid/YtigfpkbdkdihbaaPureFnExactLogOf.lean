/- The program's LogOf returns what the reference's returns. No condition: for every argument. -/
import Derived.Test.YtigfpkbdkdihbaaMe
import Derived.Test.YtigfpkbdkdihbaaMd
import Derived.Test.YtigfpkbdkdihbaaGYFnExactLogOf
namespace Go.Proofs.Ytigfpkbdkdihbaa.Pure
open Go.RowKit Go.Proofs.Ytigfpkbdkdihbaa.P Go.Proofs.Ytigfpkbdkdihbaa.M Go.Proofs.YtigfpkbdkdihbaaW.PrintWords Go.Proofs.YtigfpkbdkdihbaaW.PrintLast Go.Proofs.YtigfpkbdkdihbaaW.PrintMore
set_option linter.unusedVariables false
set_option linter.unusedSimpArgs false

theorem FnExactLogOf : laws_FnExactLogOf.Pure := by
  intro x _
  refine same_ends (sLogOf_ok x) ?_
  obtain ⟨K, hK⟩ := logOf_ok x
  refine ⟨K, fun k hk => ?_⟩
  unfold impl_LogOf.f
  simp (disch := omega) only [hK, w64, tmod_pos, tdiv_pos, ↓if_pos, ↓if_neg, if_pos, if_neg, if_true, if_false, Option.bind_some, Bool.false_eq_true, Bool.not_true, Bool.not_false, ↓reduceIte]

end Go.Proofs.Ytigfpkbdkdihbaa.Pure
