/- The program's Sub returns what the reference's returns. No condition: for every argument. -/
import Derived.Test.YtigfpkbdkdihbaaMd
import Derived.Test.YtigfpkbdkdihbaaGYFnExactSub
namespace Go.Proofs.Ytigfpkbdkdihbaa.Pure
open Go.RowKit Go.Proofs.Ytigfpkbdkdihbaa.P Go.Proofs.Ytigfpkbdkdihbaa.M Go.Proofs.YtigfpkbdkdihbaaW.PrintWords Go.Proofs.YtigfpkbdkdihbaaW.PrintLast Go.Proofs.YtigfpkbdkdihbaaW.PrintMore
set_option linter.unusedVariables false
set_option linter.unusedSimpArgs false

theorem FnExactSub : laws_FnExactSub.Pure := by
  intro f a b _ _ _
  unfold laws_FnExactSub.f
  rcases FI.cases f with ⟨p, g, t, h⟩ | h
  · simp (disch := omega) only [Sub_ok h, iSub_ok h, w64, tmod_pos, tdiv_pos, ↓if_pos, ↓if_neg, if_pos, if_neg, if_true, if_false, Option.bind_some, Bool.false_eq_true, Bool.not_true, Bool.not_false, ↓reduceIte]
  · simp (disch := omega) only [Sub_no h, iSub_no h, w64, tmod_pos, tdiv_pos, ↓if_pos, ↓if_neg, if_pos, if_neg, if_true, if_false, Option.bind_some, Bool.false_eq_true, Bool.not_true, Bool.not_false, ↓reduceIte]

end Go.Proofs.Ytigfpkbdkdihbaa.Pure
