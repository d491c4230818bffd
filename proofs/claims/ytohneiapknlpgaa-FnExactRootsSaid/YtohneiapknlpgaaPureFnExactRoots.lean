/- The program's Roots returns what the reference's returns, in memory of its own. No condition: for every argument. -/
import Derived.Test.YtohneiapknlpgaaMj
import Derived.Test.YtohneiapknlpgaaGYFnExactRoots
namespace Go.Proofs.Ytohneiapknlpgaa.Pure
open Go.RowKit Go.Proofs.Ytohneiapknlpgaa.P Go.Proofs.Ytohneiapknlpgaa.M Go.Proofs.YtohneiapknlpgaaW.PrintWords Go.Proofs.YtohneiapknlpgaaW.PrintLast Go.Proofs.YtohneiapknlpgaaW.PrintMore
set_option linter.unusedVariables false
set_option linter.unusedSimpArgs false

theorem FnExactRoots : laws_FnExactRoots.Pure := by
  intro f k _ _
  have key : ∃ r : List Int, r.length ≤ 1048576 ∧ Ev (fun n => spec_Roots.f n f k) r ∧ Ev (fun n => impl_Roots.f n f k) r := by
    rcases FI.cases f with ⟨p, g, t, h⟩ | h
    · by_cases hk : k < 0 ∨ t < k ∨ 9 < k
      · exact ⟨[], by simp, sRoots_no h hk, iRoots_no h hk⟩
      · obtain ⟨K, rfl⟩ := Int.eq_ofNat_of_zero_le (show 0 ≤ k by omega)
        refine ⟨rts p g K, ?_, sRoots_ok h (by omega) (by omega), iRoots_ok h (by omega) (by omega)⟩
        have : 2 ^ K ≤ 2 ^ 9 := Nat.pow_le_pow_right (by decide) (by omega)
        rw [rts_length]
        omega
    · exact ⟨[], by simp, sRoots_nof h k, iRoots_nof h k⟩
  obtain ⟨r, hr, ⟨K1, h1⟩, ⟨K2, h2⟩⟩ := key
  obtain ⟨K5, h5⟩ := eqIntS_ok (l := r) (by omega)
  obtain ⟨K7, h7⟩ := markIntS_ok (l := r) (by omega) (c := 1) (by omega) (by omega)
  obtain ⟨K8, h8⟩ := heldIntS_ok (n := r.length) (by omega) (c := 1) (by omega) (by omega)
  obtain ⟨KK, hKK⟩ : ∃ KK, KK = K1 + K2 + K5 + K7 + K8 := ⟨_, rfl⟩
  refine ⟨KK + 1, ?_⟩
  unfold laws_FnExactRoots.f
  simp (disch := omega) only [↓bnd (h1 (KK + 1) (by omega)), ↓bnd (h1 KK (by omega)), ↓bnd (h2 (KK + 1) (by omega)), ↓bnd (h2 KK (by omega)), ↓bnd (h5 (KK + 1) (by omega)), ↓bnd (h5 KK (by omega)), ↓bnd (h7 (KK + 1) (by omega)), ↓bnd (h7 KK (by omega)), ↓bnd (h8 (KK + 1) (by omega)), ↓bnd (h8 KK (by omega)), ↓Option.bind_some, ↓reduceIte, ↓if_pos, ↓if_neg, if_pos, if_neg, w64, Bool.not_true, Bool.not_false, Bool.false_eq_true]

end Go.Proofs.Ytohneiapknlpgaa.Pure
