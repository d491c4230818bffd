import Derived.Test.YtmkafmgbmbgogaaZFnPowModG
/- What Trim, ShiftPoly, EvalPoly, ScalePoly, Derivative, AddPoly and SubPoly come to, of the program and of the reference. -/
import Derived.Test.YtmkafmgbmbgogaaZFnPowModMa
import Derived.Test.YtmkafmgbmbgogaaZFnPowModMb
import Derived.Test.YtmkafmgbmbgogaaZFnPowModMc
import Derived.Test.YtmkafmgbmbgogaaZFnPowModMd
import Derived.Test.YtmkafmgbmbgogaaZFnPowModMh
import Derived.Test.YtmkafmgbmbgogaaZFnPowModMr
import Derived.Test.YtmkafmgbmbgogaaZFnPowModMx
import Derived.Test.YtmkafmgbmbgogaaZFnPowModWWords
import Derived.Test.YtmkafmgbmbgogaaZFnPowModWMore
import Derived.Test.YtmkafmgbmbgogaaZFnPowMod7
namespace Go.Proofs.Ytmkafmgbmbgogaa.M
open Go.RowKit Go.Proofs.Ytmkafmgbmbgogaa.P Go.Proofs.YtmkafmgbmbgogaaW.PrintWords Go.Proofs.YtmkafmgbmbgogaaW.PrintLast Go.Proofs.YtmkafmgbmbgogaaW.PrintMore
set_option linter.unusedVariables false
set_option linter.unusedSimpArgs false

section
variable {f p g t : Int}
/-! ### Trim -/
/-- The list's residues, without the last zeros. -/
def tr (p : Int) (l : List Int) : List Int := cut (mk l.length fun i => rd l (i : Int) % p)



/-! ### AddPoly, SubPoly -/
/-- Coefficients c(a i, b i) up to the longer of both. -/
def ad (p : Int) (a b : List Int) : List Int := cut (mk (max a.length b.length) fun i => (rd a (i : Int) + rd b (i : Int)) % p)
def sb (p : Int) (a b : List Int) : List Int := cut (mk (max a.length b.length) fun i => (rd a (i : Int) - rd b (i : Int)) % p)
theorem sb_rd (p : Int) (a b : List Int) (i : Nat) : rd (sb p a b) (i : Int) = (rd a (i : Int) - rd b (i : Int)) % p := by
  unfold sb
  rw [cut_rd, mk_rd]
  split
  · rfl
  · rw [rd_ge (l := a) (by omega), rd_ge (l := b) (by omega)]; simp
theorem sb_len (p : Int) (a b : List Int) : (sb p a b).length ≤ max a.length b.length := by
  have := cut_len (mk (max a.length b.length) fun i => (rd a (i : Int) - rd b (i : Int)) % p)
  rw [mk_length] at this; exact this
theorem sb_els {p : Int} (hp : 0 < p) (a b : List Int) : els p (sb p a b) = true := cut_els (mk_els fun i hi => emod_rng hp _)
theorem sb_top (p : Int) (a b : List Int) : top (sb p a b) := cut_top _
end

end Go.Proofs.Ytmkafmgbmbgogaa.M
