/- The program's Permute returns what the reference's returns, in memory of its own, and leaves its list alone. No condition: for every argument. -/
import Derived.Test.YtohneiapknlpgaaMj
import Derived.Test.YtohneiapknlpgaaGYFnExactPermute
namespace Go.Proofs.Ytohneiapknlpgaa.Pure
open Go.RowKit Go.Proofs.Ytohneiapknlpgaa.P Go.Proofs.Ytohneiapknlpgaa.M Go.Proofs.YtohneiapknlpgaaW.PrintWords Go.Proofs.YtohneiapknlpgaaW.PrintLast Go.Proofs.YtohneiapknlpgaaW.PrintMore
set_option linter.unusedVariables false
set_option linter.unusedSimpArgs false

theorem FnExactPermute : laws_FnExactPermute.Pure := by
  intro l _ _ _
  by_cases hl : 1048576 < l.length
  · refine ⟨0, ?_⟩
    unfold laws_FnExactPermute.f
    simp (disch := omega) only [w64, tmod_pos, tdiv_pos, ↓if_pos, ↓if_neg, if_pos, if_neg, if_true, if_false, Option.bind_some, Bool.false_eq_true, Bool.not_true, Bool.not_false, ↓reduceIte]
  have key : ∃ r : List Int, r.length ≤ 1048576 ∧ Ev (fun k => spec_Permute.f k l) r ∧ Ev (fun k => impl_Permute.f k l) r := by
    by_cases hb : lg (l.length : Int) < 0
    · exact ⟨[], by simp, sPermute_no hb, iPermute_no hb⟩
    · obtain ⟨j, hj, e, _⟩ := lg_some (show 0 ≤ lg (l.length : Int) by omega)
      have e' : l.length = 2 ^ j := by
        have : ((l.length : Nat) : Int) = ((2 ^ j : Nat) : Int) := by simpa using e
        exact Int.ofNat_inj.mp this
      exact ⟨pm j l, by rw [pm_length]; omega, sPermute_ok hj e', iPermute_ok hj e'⟩
  obtain ⟨r, hr, ⟨K1, h1⟩, ⟨K2, h2⟩⟩ := key
  obtain ⟨K3, h3⟩ := toIntS_ok (l := l) (by omega)
  obtain ⟨K4, h4⟩ := eqIntS_ok (l := l) (by omega)
  obtain ⟨K5, h5⟩ := eqIntS_ok (l := r) (by omega)
  obtain ⟨K6, h6⟩ := markIntS_ok (l := l) (by omega) (c := 1) (by omega) (by omega)
  obtain ⟨K7, h7⟩ := markIntS_ok (l := r) (by omega) (c := 1) (by omega) (by omega)
  obtain ⟨K8, h8⟩ := heldIntS_ok (n := r.length) (by omega) (c := 1) (by omega) (by omega)
  obtain ⟨KK, hKK⟩ : ∃ KK, KK = K1 + K2 + K3 + K4 + K5 + K6 + K7 + K8 := ⟨_, rfl⟩
  refine ⟨KK + 1, ?_⟩
  unfold laws_FnExactPermute.f
  simp (disch := omega) only [laws_FnExactPermute.j0, ↓bnd (h1 (KK + 1) (by omega)), ↓bnd (h1 KK (by omega)), ↓bnd (h2 (KK + 1) (by omega)), ↓bnd (h2 KK (by omega)), ↓bnd (h3 (KK + 1) (by omega)), ↓bnd (h3 KK (by omega)), ↓bnd (h4 (KK + 1) (by omega)), ↓bnd (h4 KK (by omega)), ↓bnd (h5 (KK + 1) (by omega)), ↓bnd (h5 KK (by omega)), ↓bnd (h6 (KK + 1) (by omega)), ↓bnd (h6 KK (by omega)), ↓bnd (h7 (KK + 1) (by omega)), ↓bnd (h7 KK (by omega)), ↓bnd (h8 (KK + 1) (by omega)), ↓bnd (h8 KK (by omega)), ↓Option.bind_some, ↓reduceIte, ↓if_pos, ↓if_neg, if_pos, if_neg, w64, Bool.not_true, Bool.not_false, Bool.false_eq_true]

end Go.Proofs.Ytohneiapknlpgaa.Pure
