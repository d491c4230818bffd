/- The program's Mul returns what the reference's returns. No condition: for every argument. -/
import Derived.Test.YtigfpkbdkdihbaaMd
import Derived.Test.YtigfpkbdkdihbaaGYFnExactMul
namespace Go.Proofs.Ytigfpkbdkdihbaa.Pure
open Go.RowKit Go.Proofs.Ytigfpkbdkdihbaa.P Go.Proofs.Ytigfpkbdkdihbaa.M Go.Proofs.YtigfpkbdkdihbaaW.PrintWords Go.Proofs.YtigfpkbdkdihbaaW.PrintLast Go.Proofs.YtigfpkbdkdihbaaW.PrintMore
set_option linter.unusedVariables false
set_option linter.unusedSimpArgs false

theorem FnExactMul : laws_FnExactMul.Pure := by
  intro f a b _ _ _
  unfold laws_FnExactMul.f
  rcases FI.cases f with ⟨p, g, t, h⟩ | h
  · simp (disch := omega) only [Mul_ok h, iMul_ok h, w64, tmod_pos, tdiv_pos, ↓if_pos, ↓if_neg, if_pos, if_neg, if_true, if_false, Option.bind_some, Bool.false_eq_true, Bool.not_true, Bool.not_false, ↓reduceIte]
  · simp (disch := omega) only [Mul_no h, iMul_no h, w64, tmod_pos, tdiv_pos, ↓if_pos, ↓if_neg, if_pos, if_neg, if_true, if_false, Option.bind_some, Bool.false_eq_true, Bool.not_true, Bool.not_false, ↓reduceIte]

end Go.Proofs.Ytigfpkbdkdihbaa.Pure
