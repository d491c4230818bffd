import Derived.Test.YtmkafmgbmbgogaaZFnEvalProductG
/- The quotient times the divisor plus what is left is the dividend. -/
import Derived.Test.YtmkafmgbmbgogaaZFnEvalProductMa
import Derived.Test.YtmkafmgbmbgogaaZFnEvalProductMb
import Derived.Test.YtmkafmgbmbgogaaZFnEvalProductMc
import Derived.Test.YtmkafmgbmbgogaaZFnEvalProductMd
import Derived.Test.YtmkafmgbmbgogaaZFnEvalProductMh
import Derived.Test.YtmkafmgbmbgogaaZFnEvalProductMr
import Derived.Test.YtmkafmgbmbgogaaZFnEvalProductMx
import Derived.Test.YtmkafmgbmbgogaaZFnEvalProductMy
import Derived.Test.YtmkafmgbmbgogaaZFnEvalProductMm
import Derived.Test.YtmkafmgbmbgogaaZFnEvalProductMw
import Derived.Test.YtmkafmgbmbgogaaZFnEvalProductWWords
import Derived.Test.YtmkafmgbmbgogaaZFnEvalProductWMore
namespace Go.Proofs.Ytmkafmgbmbgogaa.M
open Go.RowKit Go.Proofs.Ytmkafmgbmbgogaa.P Go.Proofs.YtmkafmgbmbgogaaW.PrintWords Go.Proofs.YtmkafmgbmbgogaaW.PrintLast Go.Proofs.YtmkafmgbmbgogaaW.PrintMore
set_option linter.unusedVariables false
set_option linter.unusedSimpArgs false

/-- The sum of the first terms of the product's coefficient q, nothing taken away. -/
def cvn (a b : List Int) (q : Nat) : Nat → Int
  | 0 => 0
  | i + 1 => cvn a b q i + (if i ≤ q then rd a (i : Int) * rd b ((q - i : Nat) : Int) else 0)
theorem cs_cv (p : Int) (a b : List Int) (q n : Nat) : Cg p (cs p a b q n) (cvn a b q n) := by
  induction n with
  | zero => exact Cg.refl p _
  | succ n ih =>
    rw [cs, cvn]
    split
    · exact (Cg.mod p _).trans (ih.add (Cg.refl p _))
    · rw [Int.add_zero]; exact ih
section
variable {f p g t : Int}
end

end Go.Proofs.Ytmkafmgbmbgogaa.M
