/- The program's Dot returns what the reference's returns, and leaves its lists alone. No condition: for every argument. -/
import Derived.Test.YtohneiapknlpgaaMi
import Derived.Test.YtohneiapknlpgaaGYFnExactDot
namespace Go.Proofs.Ytohneiapknlpgaa.Pure
open Go.RowKit Go.Proofs.Ytohneiapknlpgaa.P Go.Proofs.Ytohneiapknlpgaa.M Go.Proofs.YtohneiapknlpgaaW.PrintWords Go.Proofs.YtohneiapknlpgaaW.PrintLast Go.Proofs.YtohneiapknlpgaaW.PrintMore
set_option linter.unusedVariables false
set_option linter.unusedSimpArgs false

theorem FnExactDot : laws_FnExactDot.Pure := by
  intro f a b _ _ _ _ _ _ _
  by_cases hla : 1048576 < a.length
  · refine ⟨0, ?_⟩
    unfold laws_FnExactDot.f
    simp (disch := omega) only [w64, tmod_pos, tdiv_pos, ↓if_pos, ↓if_neg, if_pos, if_neg, if_true, if_false, Option.bind_some, Bool.false_eq_true, Bool.not_true, Bool.not_false, ↓reduceIte]
  by_cases hlb : 1048576 < b.length
  · refine ⟨0, ?_⟩
    unfold laws_FnExactDot.f
    simp (disch := omega) only [w64, tmod_pos, tdiv_pos, ↓if_pos, ↓if_neg, if_pos, if_neg, if_true, if_false, Option.bind_some, Bool.false_eq_true, Bool.not_true, Bool.not_false, ↓reduceIte]
  have key : ∃ r, Ev (fun k => spec_Dot.f k f a b) r ∧ Ev (fun k => impl_Dot.f k f a b) r := by
    by_cases hb : (f < 0 ∨ 9 ≤ f) ∨ 4096 < a.length ∨ 4096 < b.length
    · exact ⟨_, sDot_no hb, iDot_no hb⟩
    · rcases FI.cases f with ⟨p, g, t, h⟩ | h
      · exact ⟨_, sDot_ok h (by omega) (by omega), iDot_ok h (by omega) (by omega)⟩
      · exact absurd (.inl h) hb
  obtain ⟨r, ⟨K1, h1⟩, ⟨K2, h2⟩⟩ := key
  obtain ⟨K3, h3⟩ := toIntS_ok (l := a) (by omega)
  obtain ⟨K4, h4⟩ := toIntS_ok (l := b) (by omega)
  obtain ⟨K5, h5⟩ := eqIntS_ok (l := a) (by omega)
  obtain ⟨K6, h6⟩ := eqIntS_ok (l := b) (by omega)
  refine ⟨K1 + K2 + K3 + K4 + K5 + K6, ?_⟩
  unfold laws_FnExactDot.f
  simp (disch := omega) only [h1, h2, h3, h4, h5, h6, w64, tmod_pos, tdiv_pos, ↓if_pos, ↓if_neg, if_pos, if_neg, if_true, if_false, Option.bind_some, Bool.false_eq_true, Bool.not_true, Bool.not_false, ↓reduceIte]

end Go.Proofs.Ytohneiapknlpgaa.Pure
