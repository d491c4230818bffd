/- The program's IsRoot returns what the reference's returns. No condition: for every argument. -/
import Derived.Test.YtohneiapknlpgaaMp
import Derived.Test.YtohneiapknlpgaaGYFnExactIsRoot
namespace Go.Proofs.Ytohneiapknlpgaa.Pure
open Go.RowKit Go.Proofs.Ytohneiapknlpgaa.P Go.Proofs.Ytohneiapknlpgaa.M Go.Proofs.YtohneiapknlpgaaW.PrintWords Go.Proofs.YtohneiapknlpgaaW.PrintLast Go.Proofs.YtohneiapknlpgaaW.PrintMore
set_option linter.unusedVariables false
set_option linter.unusedSimpArgs false

theorem FnExactIsRoot : laws_FnExactIsRoot.Pure := by
  intro f w k _ _ _
  have key : ∃ b : Bool, Ev (fun n => spec_IsRoot.f n f w k) b ∧ Ev (fun n => impl_IsRoot.f n f w k) b := by
    rcases FI.cases f with ⟨p, g, t, h⟩ | h
    · by_cases hk : (k < 0 ∨ t < k) ∨ (w < 0 ∨ p ≤ w)
      · exact ⟨_, sIsRoot_no h hk, iIsRoot_no h hk⟩
      · obtain ⟨K, rfl⟩ := Int.eq_ofNat_of_zero_le (show 0 ≤ k by omega)
        exact ⟨_, sIsRoot_ok h (by omega) (by omega) (by omega), iIsRoot_ok h (by omega) (by omega) (by omega)⟩
    · exact ⟨_, sIsRoot_nof h w k, iIsRoot_nof h w k⟩
  obtain ⟨b, ⟨K1, h1⟩, ⟨K2, h2⟩⟩ := key
  refine ⟨K1 + K2, ?_⟩
  unfold laws_FnExactIsRoot.f
  cases b <;> simp (disch := omega) only [h1, h2, bne_self_eq_false, w64, tmod_pos, tdiv_pos, ↓if_pos, ↓if_neg, if_pos, if_neg, if_true, if_false, Option.bind_some, Bool.false_eq_true, Bool.not_true, Bool.not_false, ↓reduceIte]

end Go.Proofs.Ytohneiapknlpgaa.Pure
