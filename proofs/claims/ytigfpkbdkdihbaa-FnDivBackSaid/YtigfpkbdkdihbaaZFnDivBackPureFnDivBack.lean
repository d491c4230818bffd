import Derived.Test.YtigfpkbdkdihbaaZFnDivBackG
/- The quotient times the divisor plus the remainder is the dividend, and the remainder is shorter than the divisor. No condition: for every argument. -/
import Derived.Test.YtigfpkbdkdihbaaZFnDivBackMkp
import Derived.Test.YtigfpkbdkdihbaaZFnDivBackMwb
import Derived.Test.YtigfpkbdkdihbaaZFnDivBack7
namespace Go.Proofs.Ytigfpkbdkdihbaa.Pure
open Go.RowKit Go.Proofs.Ytigfpkbdkdihbaa.P Go.Proofs.Ytigfpkbdkdihbaa.M Go.Proofs.YtigfpkbdkdihbaaW.PrintWords Go.Proofs.YtigfpkbdkdihbaaW.PrintLast Go.Proofs.YtigfpkbdkdihbaaW.PrintMore
set_option linter.unusedVariables false
set_option linter.unusedSimpArgs false

theorem FnDivBack : laws_FnDivBack.Pure := by
  intro s _ _ _
  by_cases hl : 1048576 < s.length
  · refine ⟨0, ?_⟩
    unfold laws_FnDivBack.f
    simp (disch := omega) only [↓bnd (big_no hl), ↓Option.bind_some, ↓reduceIte, ↓if_pos, ↓if_neg, if_pos, if_neg, w64, Bool.not_true, Bool.not_false, Bool.false_eq_true]
  obtain ⟨f, a, b, hla, hlb, K1, h1⟩ := DrawDivMod_ok (s := s) (by omega)
  obtain ⟨ba, ⟨K2, h2⟩, hpa⟩ := PolyOk_any f (a := a) (by omega)
  obtain ⟨bb, ⟨K3, h3⟩, hpb⟩ := PolyOk_any f (a := b) (by omega)
  have hbig := big_ok (s := s) (by omega)
  have stop : ba = false ∨ bb = false ∨ b.length = 0 → ∃ k, laws_FnDivBack.f k s = some true := by
    intro hs
    obtain ⟨KK, hKK⟩ : ∃ KK, KK = K1 + K2 + K3 := ⟨_, rfl⟩
    refine ⟨KK + 3, ?_⟩
    unfold laws_FnDivBack.f
    cases ba with
    | false => simp (disch := omega) only [↓bnd hbig, laws_FnDivBack.j0, ↓bnd (h1 (KK + 3) (by omega)), ↓bnd (h1 (KK + 2) (by omega)), ↓bnd (h1 (KK + 1) (by omega)), ↓bnd (h1 KK (by omega)), ↓bnd (h2 (KK + 3) (by omega)), ↓bnd (h2 (KK + 2) (by omega)), ↓bnd (h2 (KK + 1) (by omega)), ↓bnd (h2 KK (by omega)), ↓bnd (h3 (KK + 3) (by omega)), ↓bnd (h3 (KK + 2) (by omega)), ↓bnd (h3 (KK + 1) (by omega)), ↓bnd (h3 KK (by omega)), ↓Option.bind_some, ↓reduceIte, ↓if_pos, ↓if_neg, if_pos, if_neg, w64, Bool.not_true, Bool.not_false, Bool.false_eq_true]
    | true =>
      cases bb with
      | false => simp (disch := omega) only [↓bnd hbig, laws_FnDivBack.j0, ↓bnd (h1 (KK + 3) (by omega)), ↓bnd (h1 (KK + 2) (by omega)), ↓bnd (h1 (KK + 1) (by omega)), ↓bnd (h1 KK (by omega)), ↓bnd (h2 (KK + 3) (by omega)), ↓bnd (h2 (KK + 2) (by omega)), ↓bnd (h2 (KK + 1) (by omega)), ↓bnd (h2 KK (by omega)), ↓bnd (h3 (KK + 3) (by omega)), ↓bnd (h3 (KK + 2) (by omega)), ↓bnd (h3 (KK + 1) (by omega)), ↓bnd (h3 KK (by omega)), ↓Option.bind_some, ↓reduceIte, ↓if_pos, ↓if_neg, if_pos, if_neg, w64, Bool.not_true, Bool.not_false, Bool.false_eq_true]
      | true =>
        have e : ((b.length : Int) == 0) = true := beq_iff_eq.2 (by rcases hs with c | c | c; cases c; cases c; omega)
        simp (disch := omega) only [↓bnd hbig, e, laws_FnDivBack.j0, ↓bnd (h1 (KK + 3) (by omega)), ↓bnd (h1 (KK + 2) (by omega)), ↓bnd (h1 (KK + 1) (by omega)), ↓bnd (h1 KK (by omega)), ↓bnd (h2 (KK + 3) (by omega)), ↓bnd (h2 (KK + 2) (by omega)), ↓bnd (h2 (KK + 1) (by omega)), ↓bnd (h2 KK (by omega)), ↓bnd (h3 (KK + 3) (by omega)), ↓bnd (h3 (KK + 2) (by omega)), ↓bnd (h3 (KK + 1) (by omega)), ↓bnd (h3 KK (by omega)), ↓Option.bind_some, ↓reduceIte, ↓if_pos, ↓if_neg, if_pos, if_neg, w64, Bool.not_true, Bool.not_false, Bool.false_eq_true]
  cases ba with
  | false => exact stop (.inl rfl)
  | true =>
    cases bb with
    | false => exact stop (.inr (.inl rfl))
    | true =>
      by_cases h0 : b.length = 0
      · exact stop (.inr (.inr h0))
      · obtain ⟨p, g, t, h, ha⟩ := hpa rfl
        obtain ⟨p', g', t', h', hb⟩ := hpb rfl
        rw [← h.p_eq h'] at hb
        have r := h.isF.rng
        have hr := dm_rem (p := p) (by omega) (pk_els ha) (pk_top' ha) (b := b) (by omega)
        have hq := dm_q_pk h.isF ha hb (by omega)
        have hml := dm_q_ml h.isF ha (b := b) (by omega)
        obtain ⟨K4, h4⟩ := cp_ok (l := a) (by omega)
        obtain ⟨K5, h5⟩ := cp_ok (l := b) (by omega)
        obtain ⟨K6, h6⟩ := iDivP_ok h ha hb
        obtain ⟨K7, h7⟩ := iMulP_ok h hq hb
        obtain ⟨K8, h8⟩ := iAddP_ok h (pk_of hml (ml_els (by omega) _ _) (ml_top _ _ _)) (dm_rem_pk (by omega) (pk_els ha) (pk_top' ha) (by omega) (pk_len hb))
        obtain ⟨K9, h9⟩ := same_ok (l := a) (by omega)
        rw [show dmo p a b = ((dm p a b).1, (dm p a b).2, true) by unfold dmo; rw [if_neg h0]] at h6
        rw [show mp p (dm p a b).1 b = (ml p (dm p a b).1 b, true) by unfold mp; rw [if_neg (by omega)]] at h7
        rw [div_back h.isF ha hb (by omega)] at h8
        have e : ((b.length : Int) == 0) = false := beq_eq_false_iff_ne.2 (by omega)
        have e2 : decide (((dm p a b).2.length : Int) ≥ (b.length : Int)) = false := decide_eq_false (by omega)
        obtain ⟨KK, hKK⟩ : ∃ KK, KK = K1 + K2 + K3 + K4 + K5 + K6 + K7 + K8 + K9 := ⟨_, rfl⟩
        refine ⟨KK + 3, ?_⟩
        unfold laws_FnDivBack.f
        simp (disch := omega) only [↓bnd hbig, e, e2, laws_FnDivBack.j0, laws_FnDivBack.j1, ↓bnd (h1 (KK + 3) (by omega)), ↓bnd (h1 (KK + 2) (by omega)), ↓bnd (h1 (KK + 1) (by omega)), ↓bnd (h1 KK (by omega)), ↓bnd (h2 (KK + 3) (by omega)), ↓bnd (h2 (KK + 2) (by omega)), ↓bnd (h2 (KK + 1) (by omega)), ↓bnd (h2 KK (by omega)), ↓bnd (h3 (KK + 3) (by omega)), ↓bnd (h3 (KK + 2) (by omega)), ↓bnd (h3 (KK + 1) (by omega)), ↓bnd (h3 KK (by omega)), ↓bnd (h4 (KK + 3) (by omega)), ↓bnd (h4 (KK + 2) (by omega)), ↓bnd (h4 (KK + 1) (by omega)), ↓bnd (h4 KK (by omega)), ↓bnd (h5 (KK + 3) (by omega)), ↓bnd (h5 (KK + 2) (by omega)), ↓bnd (h5 (KK + 1) (by omega)), ↓bnd (h5 KK (by omega)), ↓bnd (h6 (KK + 3) (by omega)), ↓bnd (h6 (KK + 2) (by omega)), ↓bnd (h6 (KK + 1) (by omega)), ↓bnd (h6 KK (by omega)), ↓bnd (h7 (KK + 3) (by omega)), ↓bnd (h7 (KK + 2) (by omega)), ↓bnd (h7 (KK + 1) (by omega)), ↓bnd (h7 KK (by omega)), ↓bnd (h8 (KK + 3) (by omega)), ↓bnd (h8 (KK + 2) (by omega)), ↓bnd (h8 (KK + 1) (by omega)), ↓bnd (h8 KK (by omega)), ↓bnd (h9 (KK + 3) (by omega)), ↓bnd (h9 (KK + 2) (by omega)), ↓bnd (h9 (KK + 1) (by omega)), ↓bnd (h9 KK (by omega)), ↓Option.bind_some, ↓reduceIte, ↓if_pos, ↓if_neg, if_pos, if_neg, w64, Bool.not_true, Bool.not_false, Bool.false_eq_true]

end Go.Proofs.Ytigfpkbdkdihbaa.Pure
