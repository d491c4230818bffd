/- The program's TwoPower returns what the reference's returns. No condition: for every argument. -/
import Derived.Test.YtigfpkbdkdihbaaMd
import Derived.Test.YtigfpkbdkdihbaaGYFnExactTwoPower
namespace Go.Proofs.Ytigfpkbdkdihbaa.Pure
open Go.RowKit Go.Proofs.Ytigfpkbdkdihbaa.P Go.Proofs.Ytigfpkbdkdihbaa.M Go.Proofs.YtigfpkbdkdihbaaW.PrintWords Go.Proofs.YtigfpkbdkdihbaaW.PrintLast Go.Proofs.YtigfpkbdkdihbaaW.PrintMore
set_option linter.unusedVariables false
set_option linter.unusedSimpArgs false

theorem FnExactTwoPower : laws_FnExactTwoPower.Pure := by
  intro f _
  rcases FI.cases f with ⟨p, g, t, h⟩ | h
  · refine same_ends (TwoPower_ok h) (Ev.const ?_)
    unfold impl_TwoPower.f
    simp (disch := omega) only [fieldOf_ok h, w64, tmod_pos, tdiv_pos, ↓if_pos, ↓if_neg, if_pos, if_neg, if_true, if_false, Option.bind_some, Bool.false_eq_true, Bool.not_true, Bool.not_false, ↓reduceIte]
  · refine same_ends (TwoPower_no h) (Ev.const ?_)
    unfold impl_TwoPower.f
    simp (disch := omega) only [fieldOf_no h, w64, tmod_pos, tdiv_pos, ↓if_pos, ↓if_neg, if_pos, if_neg, if_true, if_false, Option.bind_some, Bool.false_eq_true, Bool.not_true, Bool.not_false, ↓reduceIte]

end Go.Proofs.Ytigfpkbdkdihbaa.Pure
