import Derived.Test.YtjfmclpfdijkiaaG0
/- The program's EvalPoly returns what the reference's returns, and leaves its lists alone. No condition: for every argument. -/
import Derived.Test.YtjfmclpfdijkiaaZFnExactEvalPolyMz
import Derived.Test.YtjfmclpfdijkiaaZFnExactEvalPoly5
namespace Go.Proofs.Ytjfmclpfdijkiaa.Pure
open Go.RowKit Go.Proofs.Ytjfmclpfdijkiaa.P Go.Proofs.Ytjfmclpfdijkiaa.M Go.Proofs.YtjfmclpfdijkiaaW.PrintWords Go.Proofs.YtjfmclpfdijkiaaW.PrintLast Go.Proofs.YtjfmclpfdijkiaaW.PrintMore
set_option linter.unusedVariables false
set_option linter.unusedSimpArgs false

theorem FnExactEvalPoly : laws_FnExactEvalPoly.Pure := by
  intro f a x _ _ _ _ _
  by_cases hla : 1048576 < a.length
  · refine ⟨0, ?_⟩
    unfold laws_FnExactEvalPoly.f
    simp (disch := omega) only [w64, tmod_pos, tdiv_pos, ↓if_pos, ↓if_neg, if_pos, if_neg, if_true, if_false, Option.bind_some, Bool.false_eq_true, Bool.not_true, Bool.not_false, ↓reduceIte]
  have hm : ∀ l : List Int, l.length ≤ 400 → l.length ≤ 1048576 := fun l h => by omega
  have key : ∃ r : Int, Ev (fun k => spec_EvalPoly.f k f a x) r ∧ Ev (fun k => impl_EvalPoly.f k f a x) r := by
    rcases poly_cases f a with ⟨p, g, t, h, ha⟩ | h
    · have hla' := pk_len ha
      exact ⟨_, sEval_ok h ha x, iEval_ok h ha x⟩
    · exact ⟨_, sEval_no h (by omega) x, iEval_no h (by omega) x⟩
  obtain ⟨r, ⟨K1, h1⟩, ⟨K2, h2⟩⟩ := key
  obtain ⟨K3, h3⟩ := toIntS_ok (l := a) (by omega)
  obtain ⟨K4, h4⟩ := eqIntS_ok (l := a) (by omega)
  obtain ⟨KK, hKK⟩ : ∃ KK, KK = K1 + K2 + K3 + K4 := ⟨_, rfl⟩
  refine ⟨KK + 3, ?_⟩
  unfold laws_FnExactEvalPoly.f
  simp (disch := omega) only [bne_self_eq_false, ↓bnd (h1 (KK + 3) (by omega)), ↓bnd (h1 (KK + 2) (by omega)), ↓bnd (h1 (KK + 1) (by omega)), ↓bnd (h1 KK (by omega)), ↓bnd (h2 (KK + 3) (by omega)), ↓bnd (h2 (KK + 2) (by omega)), ↓bnd (h2 (KK + 1) (by omega)), ↓bnd (h2 KK (by omega)), ↓bnd (h3 (KK + 3) (by omega)), ↓bnd (h3 (KK + 2) (by omega)), ↓bnd (h3 (KK + 1) (by omega)), ↓bnd (h3 KK (by omega)), ↓bnd (h4 (KK + 3) (by omega)), ↓bnd (h4 (KK + 2) (by omega)), ↓bnd (h4 (KK + 1) (by omega)), ↓bnd (h4 KK (by omega)), ↓Option.bind_some, ↓reduceIte, ↓if_pos, ↓if_neg, if_pos, if_neg, w64, Bool.not_true, Bool.not_false, Bool.false_eq_true]

end Go.Proofs.Ytjfmclpfdijkiaa.Pure
