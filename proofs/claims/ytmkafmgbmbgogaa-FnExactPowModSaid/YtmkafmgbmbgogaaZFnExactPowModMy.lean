import Derived.Test.YtmkafmgbmbgogaaZFnExactPowModG
/- What Trim, ShiftPoly, EvalPoly, ScalePoly, Derivative, AddPoly and SubPoly come to, of the program and of the reference. -/
import Derived.Test.YtmkafmgbmbgogaaZFnExactPowModMa
import Derived.Test.YtmkafmgbmbgogaaZFnExactPowModMb
import Derived.Test.YtmkafmgbmbgogaaZFnExactPowModMc
import Derived.Test.YtmkafmgbmbgogaaZFnExactPowModMd
import Derived.Test.YtmkafmgbmbgogaaZFnExactPowModMh
import Derived.Test.YtmkafmgbmbgogaaZFnExactPowModMr
import Derived.Test.YtmkafmgbmbgogaaZFnExactPowModMx
import Derived.Test.YtmkafmgbmbgogaaZFnExactPowModWWords
import Derived.Test.YtmkafmgbmbgogaaZFnExactPowModWMore
import Derived.Test.YtmkafmgbmbgogaaZFnExactPowMod6
namespace Go.Proofs.Ytmkafmgbmbgogaa.M
open Go.RowKit Go.Proofs.Ytmkafmgbmbgogaa.P Go.Proofs.YtmkafmgbmbgogaaW.PrintWords Go.Proofs.YtmkafmgbmbgogaaW.PrintLast Go.Proofs.YtmkafmgbmbgogaaW.PrintMore
set_option linter.unusedVariables false
set_option linter.unusedSimpArgs false

section
variable {f p g t : Int}



/-! ### AddPoly, SubPoly -/
/-- Coefficients c(a i, b i) up to the longer of both. -/
def ad (p : Int) (a b : List Int) : List Int := cut (mk (max a.length b.length) fun i => (rd a (i : Int) + rd b (i : Int)) % p)
/-- Two polynomials over a field, or not. -/
theorem poly_cases2 (f : Int) (a b : List Int) : (∃ p g t, FI f p g t ∧ pk p a = true ∧ pk p b = true) ∨ ((f < 0 ∨ 9 ≤ f) ∨ ∃ p g t, FI f p g t ∧ ¬ (pk p a = true ∧ pk p b = true)) := by
  rcases FI.cases f with ⟨p, g, t, h⟩ | h
  · by_cases e : pk p a = true ∧ pk p b = true
    · exact .inl ⟨p, g, t, h, e⟩
    · exact .inr (.inr ⟨p, g, t, h, e⟩)
  · exact .inr (.inl h)
/-- The reference's two checks of two lists, as one. -/
theorem twoOk_no {a b : List Int} (h : (f < 0 ∨ 9 ≤ f) ∨ ∃ p g t, FI f p g t ∧ ¬ (pk p a = true ∧ pk p b = true)) (hla : a.length ≤ 1048576) (hlb : b.length ≤ 1048576) :
    ∃ x y : Bool, Ev (fun k => spec_PolyOk.f k f a) x ∧ Ev (fun k => spec_PolyOk.f k f b) y ∧ (x = false ∨ x = true ∧ y = false) := by
  rcases h with h | ⟨p, g, t, h, hp⟩
  · exact ⟨_, _, PolyOk_no h a, PolyOk_no h b, .inl rfl⟩
  · refine ⟨_, _, PolyOk_ok h hla, PolyOk_ok h hlb, ?_⟩
    revert hp
    cases pk p a <;> cases pk p b <;> simp
end

end Go.Proofs.Ytmkafmgbmbgogaa.M
