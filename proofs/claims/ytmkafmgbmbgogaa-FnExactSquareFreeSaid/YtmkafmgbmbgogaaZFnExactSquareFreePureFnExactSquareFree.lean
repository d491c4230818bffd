import Derived.Test.YtmkafmgbmbgogaaG0
/- The program's SquareFree returns what the reference's returns, and leaves its lists alone. No condition: for every argument. -/
import Derived.Test.YtmkafmgbmbgogaaZFnExactSquareFreeMg
import Derived.Test.YtmkafmgbmbgogaaZFnExactSquareFree14
namespace Go.Proofs.Ytmkafmgbmbgogaa.Pure
open Go.RowKit Go.Proofs.Ytmkafmgbmbgogaa.P Go.Proofs.Ytmkafmgbmbgogaa.M Go.Proofs.YtmkafmgbmbgogaaW.PrintWords Go.Proofs.YtmkafmgbmbgogaaW.PrintLast Go.Proofs.YtmkafmgbmbgogaaW.PrintMore
set_option linter.unusedVariables false
set_option linter.unusedSimpArgs false

theorem FnExactSquareFree : laws_FnExactSquareFree.Pure := by
  intro f a _ _ _ _
  by_cases hla : 1048576 < a.length
  · refine ⟨0, ?_⟩
    unfold laws_FnExactSquareFree.f
    simp (disch := omega) only [w64, tmod_pos, tdiv_pos, ↓if_pos, ↓if_neg, if_pos, if_neg, if_true, if_false, Option.bind_some, Bool.false_eq_true, Bool.not_true, Bool.not_false, ↓reduceIte]
  have hm : ∀ l : List Int, l.length ≤ 400 → l.length ≤ 1048576 := fun l h => by omega
  have key : ∃ r : Bool, Ev (fun k => spec_SquareFree.f k f a) r ∧ Ev (fun k => impl_SquareFree.f k f a) r := by
    rcases poly_cases f a with ⟨p, g, t, h, ha⟩ | h
    · have hla' := pk_len ha
      exact ⟨_, sSqf_ok h ha, iSqf_ok h ha⟩
    · exact ⟨_, sSqf_no h (by omega), iSqf_no h (by omega)⟩
  obtain ⟨r, ⟨K1, h1⟩, ⟨K2, h2⟩⟩ := key
  obtain ⟨K3, h3⟩ := toIntS_ok (l := a) (by omega)
  obtain ⟨K4, h4⟩ := eqIntS_ok (l := a) (by omega)
  obtain ⟨KK, hKK⟩ : ∃ KK, KK = K1 + K2 + K3 + K4 := ⟨_, rfl⟩
  refine ⟨KK + 3, ?_⟩
  unfold laws_FnExactSquareFree.f
  simp (disch := omega) only [bne_self_eq_false, ↓bnd (h1 (KK + 3) (by omega)), ↓bnd (h1 (KK + 2) (by omega)), ↓bnd (h1 (KK + 1) (by omega)), ↓bnd (h1 KK (by omega)), ↓bnd (h2 (KK + 3) (by omega)), ↓bnd (h2 (KK + 2) (by omega)), ↓bnd (h2 (KK + 1) (by omega)), ↓bnd (h2 KK (by omega)), ↓bnd (h3 (KK + 3) (by omega)), ↓bnd (h3 (KK + 2) (by omega)), ↓bnd (h3 (KK + 1) (by omega)), ↓bnd (h3 KK (by omega)), ↓bnd (h4 (KK + 3) (by omega)), ↓bnd (h4 (KK + 2) (by omega)), ↓bnd (h4 (KK + 1) (by omega)), ↓bnd (h4 KK (by omega)), ↓Option.bind_some, ↓reduceIte, ↓if_pos, ↓if_neg, if_pos, if_neg, w64, Bool.not_true, Bool.not_false, Bool.false_eq_true]

end Go.Proofs.Ytmkafmgbmbgogaa.Pure
