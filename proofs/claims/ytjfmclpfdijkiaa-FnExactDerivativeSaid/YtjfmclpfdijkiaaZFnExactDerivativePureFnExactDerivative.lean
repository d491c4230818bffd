import Derived.Test.YtjfmclpfdijkiaaG0
/- The program's Derivative returns what the reference's returns, in memory of its own, and leaves its lists alone. No condition: for every argument. -/
import Derived.Test.YtjfmclpfdijkiaaZFnExactDerivativeMz
import Derived.Test.YtjfmclpfdijkiaaZFnExactDerivative5
namespace Go.Proofs.Ytjfmclpfdijkiaa.Pure
open Go.RowKit Go.Proofs.Ytjfmclpfdijkiaa.P Go.Proofs.Ytjfmclpfdijkiaa.M Go.Proofs.YtjfmclpfdijkiaaW.PrintWords Go.Proofs.YtjfmclpfdijkiaaW.PrintLast Go.Proofs.YtjfmclpfdijkiaaW.PrintMore
set_option linter.unusedVariables false
set_option linter.unusedSimpArgs false

theorem FnExactDerivative : laws_FnExactDerivative.Pure := by
  intro f a _ _ _ _
  by_cases hla : 1048576 < a.length
  · refine ⟨0, ?_⟩
    unfold laws_FnExactDerivative.f
    simp (disch := omega) only [w64, tmod_pos, tdiv_pos, ↓if_pos, ↓if_neg, if_pos, if_neg, if_true, if_false, Option.bind_some, Bool.false_eq_true, Bool.not_true, Bool.not_false, ↓reduceIte]
  have hm : ∀ l : List Int, l.length ≤ 400 → l.length ≤ 1048576 := fun l h => by omega
  have key : ∃ r : List Int, r.length ≤ 1048576 ∧ Ev (fun k => spec_Derivative.f k f a) r ∧ Ev (fun k => impl_Derivative.f k f a) r := by
    rcases poly_cases f a with ⟨p, g, t, h, ha⟩ | h
    · have hla' := pk_len ha
      exact ⟨_, by have := dv_len p a; omega, sDeriv_ok h ha, iDeriv_ok h ha⟩
    · exact ⟨_, by simp, sDeriv_no h (by omega), iDeriv_no h (by omega)⟩
  obtain ⟨r, hr, ⟨K1, h1⟩, ⟨K2, h2⟩⟩ := key
  obtain ⟨K3, h3⟩ := toIntS_ok (l := a) (by omega)
  obtain ⟨K4, h4⟩ := eqIntS_ok (l := a) (by omega)
  obtain ⟨K5, h5⟩ := eqIntS_ok (l := r) (by omega)
  obtain ⟨K6, h6⟩ := markIntS_ok (l := a) (by omega) (c := 1) (by omega) (by omega)
  obtain ⟨K7, h7⟩ := markIntS_ok (l := r) (by omega) (c := 1) (by omega) (by omega)
  obtain ⟨K8, h8⟩ := heldIntS_ok (n := r.length) (by omega) (c := 1) (by omega) (by omega)
  obtain ⟨KK, hKK⟩ : ∃ KK, KK = K1 + K2 + K3 + K4 + K5 + K6 + K7 + K8 := ⟨_, rfl⟩
  refine ⟨KK + 3, ?_⟩
  unfold laws_FnExactDerivative.f
  simp (disch := omega) only [laws_FnExactDerivative.j0, ↓bnd (h1 (KK + 3) (by omega)), ↓bnd (h1 (KK + 2) (by omega)), ↓bnd (h1 (KK + 1) (by omega)), ↓bnd (h1 KK (by omega)), ↓bnd (h2 (KK + 3) (by omega)), ↓bnd (h2 (KK + 2) (by omega)), ↓bnd (h2 (KK + 1) (by omega)), ↓bnd (h2 KK (by omega)), ↓bnd (h3 (KK + 3) (by omega)), ↓bnd (h3 (KK + 2) (by omega)), ↓bnd (h3 (KK + 1) (by omega)), ↓bnd (h3 KK (by omega)), ↓bnd (h4 (KK + 3) (by omega)), ↓bnd (h4 (KK + 2) (by omega)), ↓bnd (h4 (KK + 1) (by omega)), ↓bnd (h4 KK (by omega)), ↓bnd (h5 (KK + 3) (by omega)), ↓bnd (h5 (KK + 2) (by omega)), ↓bnd (h5 (KK + 1) (by omega)), ↓bnd (h5 KK (by omega)), ↓bnd (h6 (KK + 3) (by omega)), ↓bnd (h6 (KK + 2) (by omega)), ↓bnd (h6 (KK + 1) (by omega)), ↓bnd (h6 KK (by omega)), ↓bnd (h7 (KK + 3) (by omega)), ↓bnd (h7 (KK + 2) (by omega)), ↓bnd (h7 (KK + 1) (by omega)), ↓bnd (h7 KK (by omega)), ↓bnd (h8 (KK + 3) (by omega)), ↓bnd (h8 (KK + 2) (by omega)), ↓bnd (h8 (KK + 1) (by omega)), ↓bnd (h8 KK (by omega)), ↓Option.bind_some, ↓reduceIte, ↓if_pos, ↓if_neg, if_pos, if_neg, w64, Bool.not_true, Bool.not_false, Bool.false_eq_true]

end Go.Proofs.Ytjfmclpfdijkiaa.Pure
