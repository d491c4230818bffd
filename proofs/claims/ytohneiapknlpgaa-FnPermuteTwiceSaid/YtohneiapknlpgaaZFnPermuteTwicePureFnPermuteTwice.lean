/- Applying the program's Permute twice restores the list, for the lists drawn. No condition: for every argument. -/
import Derived.Test.YtohneiapknlpgaaZFnPermuteTwiceMj
import Derived.Test.YtohneiapknlpgaaZFnPermuteTwiceMk
import Derived.Test.YtohneiapknlpgaaZFnPermuteTwice1
namespace Go.Proofs.Ytohneiapknlpgaa.Pure
open Go.RowKit Go.Proofs.Ytohneiapknlpgaa.P Go.Proofs.Ytohneiapknlpgaa.M Go.Proofs.YtohneiapknlpgaaW.PrintWords Go.Proofs.YtohneiapknlpgaaW.PrintLast Go.Proofs.YtohneiapknlpgaaW.PrintMore
set_option linter.unusedVariables false
set_option linter.unusedSimpArgs false

theorem FnPermuteTwice : laws_FnPermuteTwice.Pure := by
  intro s _ _ _
  by_cases hl : 1048576 < s.length
  · refine ⟨0, ?_⟩
    unfold laws_FnPermuteTwice.f
    simp (disch := omega) only [↓bnd (big_no hl), ↓Option.bind_some, ↓reduceIte, ↓if_pos, ↓if_neg, if_pos, if_neg, w64, Bool.not_true, Bool.not_false, Bool.false_eq_true]
  obtain ⟨l, hl2, K1, h1⟩ := DrawPermute_ok (s := s) (by omega)
  obtain ⟨K2, h2⟩ := sLogOf_ok (l.length : Int)
  by_cases hb : lg (l.length : Int) < 0
  · obtain ⟨KK, hKK⟩ : ∃ KK, KK = K1 + K2 := ⟨_, rfl⟩
    refine ⟨KK + 1, ?_⟩
    unfold laws_FnPermuteTwice.f
    simp (disch := omega) only [↓bnd (big_ok (s := s) (by omega)), ↓bnd (h1 (KK + 1) (by omega)), ↓bnd (h1 KK (by omega)), ↓bnd (h2 (KK + 1) (by omega)), ↓bnd (h2 KK (by omega)), ↓Option.bind_some, ↓reduceIte, ↓if_pos, ↓if_neg, if_pos, if_neg, w64, Bool.not_true, Bool.not_false, Bool.false_eq_true]
  · obtain ⟨j, hj, e, _⟩ := lg_some (show 0 ≤ lg (l.length : Int) by omega)
    have e1 : l.length = 2 ^ j := by
      have : ((l.length : Nat) : Int) = ((2 ^ j : Nat) : Int) := by simpa using e
      exact Int.ofNat_inj.mp this
    obtain ⟨K3, h3⟩ := cp_ok (l := l) (by omega)
    obtain ⟨K4, h4⟩ := iPermute_ok hj e1
    obtain ⟨K5, h5⟩ := iPermute_ok (l := pm j l) hj (by rw [pm_length]; exact e1)
    rw [pm_pm e1] at h5
    obtain ⟨K6, h6⟩ := same_ok (l := l) (by omega)
    obtain ⟨KK, hKK⟩ : ∃ KK, KK = K1 + K2 + K3 + K4 + K5 + K6 := ⟨_, rfl⟩
    refine ⟨KK + 1, ?_⟩
    unfold laws_FnPermuteTwice.f
    simp (disch := omega) only [↓bnd (big_ok (s := s) (by omega)), ↓bnd (h1 (KK + 1) (by omega)), ↓bnd (h1 KK (by omega)), ↓bnd (h2 (KK + 1) (by omega)), ↓bnd (h2 KK (by omega)), ↓bnd (h3 (KK + 1) (by omega)), ↓bnd (h3 KK (by omega)), ↓bnd (h4 (KK + 1) (by omega)), ↓bnd (h4 KK (by omega)), ↓bnd (h5 (KK + 1) (by omega)), ↓bnd (h5 KK (by omega)), ↓bnd (h6 (KK + 1) (by omega)), ↓bnd (h6 KK (by omega)), ↓Option.bind_some, ↓reduceIte, ↓if_pos, ↓if_neg, if_pos, if_neg, w64, Bool.not_true, Bool.not_false, Bool.false_eq_true]

end Go.Proofs.Ytohneiapknlpgaa.Pure
