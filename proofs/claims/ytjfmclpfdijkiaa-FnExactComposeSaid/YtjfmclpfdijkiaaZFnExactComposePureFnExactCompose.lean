import Derived.Test.YtjfmclpfdijkiaaG0
/- The program's Compose returns what the reference's returns, in memory of its own, and leaves its lists alone. No condition: for every argument. -/
import Derived.Test.YtjfmclpfdijkiaaZFnExactComposeMcp
import Derived.Test.YtjfmclpfdijkiaaZFnExactCompose6
namespace Go.Proofs.Ytjfmclpfdijkiaa.Pure
open Go.RowKit Go.Proofs.Ytjfmclpfdijkiaa.P Go.Proofs.Ytjfmclpfdijkiaa.M Go.Proofs.YtjfmclpfdijkiaaW.PrintWords Go.Proofs.YtjfmclpfdijkiaaW.PrintLast Go.Proofs.YtjfmclpfdijkiaaW.PrintMore
set_option linter.unusedVariables false
set_option linter.unusedSimpArgs false

theorem FnExactCompose : laws_FnExactCompose.Pure := by
  intro f a b _ _ _ _ _ _ _
  by_cases hla : 1048576 < a.length
  · refine ⟨0, ?_⟩
    unfold laws_FnExactCompose.f
    simp (disch := omega) only [w64, tmod_pos, tdiv_pos, ↓if_pos, ↓if_neg, if_pos, if_neg, if_true, if_false, Option.bind_some, Bool.false_eq_true, Bool.not_true, Bool.not_false, ↓reduceIte]
  by_cases hlb : 1048576 < b.length
  · refine ⟨0, ?_⟩
    unfold laws_FnExactCompose.f
    simp (disch := omega) only [w64, tmod_pos, tdiv_pos, ↓if_pos, ↓if_neg, if_pos, if_neg, if_true, if_false, Option.bind_some, Bool.false_eq_true, Bool.not_true, Bool.not_false, ↓reduceIte]
  have hm : ∀ l : List Int, l.length ≤ 400 → l.length ≤ 1048576 := fun l h => by omega
  have key : ∃ r : List Int × Bool, r.1.length ≤ 1048576 ∧ Ev (fun k => spec_Compose.f k f a b) r ∧ Ev (fun k => impl_Compose.f k f a b) r := by
    rcases poly_cases2 f a b with ⟨p, g, t, h, ha, hb⟩ | h
    · have hla' := pk_len ha
      have hlb' := pk_len hb
      exact ⟨_, cpo_len b hla' hlb', sComp_ok h ha hb, iComp_ok h ha hb⟩
    · exact ⟨_, by simp, sComp_no h (by omega) (by omega), iComp_no h (by omega) (by omega)⟩
  obtain ⟨⟨r, ok⟩, hr, ⟨K1, h1⟩, ⟨K2, h2⟩⟩ := key
  dsimp only at hr
  obtain ⟨K3, h3⟩ := toIntS_ok (l := a) (by omega)
  obtain ⟨K4, h4⟩ := eqIntS_ok (l := a) (by omega)
  obtain ⟨K5, h5⟩ := toIntS_ok (l := b) (by omega)
  obtain ⟨K6, h6⟩ := eqIntS_ok (l := b) (by omega)
  obtain ⟨K7, h7⟩ := eqIntS_ok (l := r) (by omega)
  obtain ⟨K8, h8⟩ := markIntS_ok (l := a) (by omega) (c := 1) (by omega) (by omega)
  obtain ⟨K9, h9⟩ := markIntS_ok (l := b) (by omega) (c := 1 + a.length) (by omega) (by omega)
  obtain ⟨K10, h10⟩ := markIntS_ok (l := r) (by omega) (c := 1) (by omega) (by omega)
  obtain ⟨K11, h11⟩ := heldIntS_ok (n := r.length) (by omega) (c := 1) (by omega) (by omega)
  obtain ⟨KK, hKK⟩ : ∃ KK, KK = K1 + K2 + K3 + K4 + K5 + K6 + K7 + K8 + K9 + K10 + K11 := ⟨_, rfl⟩
  refine ⟨KK + 3, ?_⟩
  unfold laws_FnExactCompose.f
  simp (disch := omega) only [bne_self_eq_false, laws_FnExactCompose.j0, laws_FnExactCompose.j1, laws_FnExactCompose.j2, ↓bnd (h1 (KK + 3) (by omega)), ↓bnd (h1 (KK + 2) (by omega)), ↓bnd (h1 (KK + 1) (by omega)), ↓bnd (h1 KK (by omega)), ↓bnd (h2 (KK + 3) (by omega)), ↓bnd (h2 (KK + 2) (by omega)), ↓bnd (h2 (KK + 1) (by omega)), ↓bnd (h2 KK (by omega)), ↓bnd (h3 (KK + 3) (by omega)), ↓bnd (h3 (KK + 2) (by omega)), ↓bnd (h3 (KK + 1) (by omega)), ↓bnd (h3 KK (by omega)), ↓bnd (h4 (KK + 3) (by omega)), ↓bnd (h4 (KK + 2) (by omega)), ↓bnd (h4 (KK + 1) (by omega)), ↓bnd (h4 KK (by omega)), ↓bnd (h5 (KK + 3) (by omega)), ↓bnd (h5 (KK + 2) (by omega)), ↓bnd (h5 (KK + 1) (by omega)), ↓bnd (h5 KK (by omega)), ↓bnd (h6 (KK + 3) (by omega)), ↓bnd (h6 (KK + 2) (by omega)), ↓bnd (h6 (KK + 1) (by omega)), ↓bnd (h6 KK (by omega)), ↓bnd (h7 (KK + 3) (by omega)), ↓bnd (h7 (KK + 2) (by omega)), ↓bnd (h7 (KK + 1) (by omega)), ↓bnd (h7 KK (by omega)), ↓bnd (h8 (KK + 3) (by omega)), ↓bnd (h8 (KK + 2) (by omega)), ↓bnd (h8 (KK + 1) (by omega)), ↓bnd (h8 KK (by omega)), ↓bnd (h9 (KK + 3) (by omega)), ↓bnd (h9 (KK + 2) (by omega)), ↓bnd (h9 (KK + 1) (by omega)), ↓bnd (h9 KK (by omega)), ↓bnd (h10 (KK + 3) (by omega)), ↓bnd (h10 (KK + 2) (by omega)), ↓bnd (h10 (KK + 1) (by omega)), ↓bnd (h10 KK (by omega)), ↓bnd (h11 (KK + 3) (by omega)), ↓bnd (h11 (KK + 2) (by omega)), ↓bnd (h11 (KK + 1) (by omega)), ↓bnd (h11 KK (by omega)), ↓Option.bind_some, ↓reduceIte, ↓if_pos, ↓if_neg, if_pos, if_neg, w64, Bool.not_true, Bool.not_false, Bool.false_eq_true]

end Go.Proofs.Ytjfmclpfdijkiaa.Pure
