import Derived.Test.YtmkafmgbmbgogaaZFnEvalProductG
/- The value of a product is the product of the values, and the value of Compose is the value at the value. No condition: for every argument. -/
import Derived.Test.YtmkafmgbmbgogaaZFnEvalProductMkp
import Derived.Test.YtmkafmgbmbgogaaZFnEvalProductMcv
import Derived.Test.YtmkafmgbmbgogaaZFnEvalProduct6
namespace Go.Proofs.Ytmkafmgbmbgogaa.Pure
open Go.RowKit Go.Proofs.Ytmkafmgbmbgogaa.P Go.Proofs.Ytmkafmgbmbgogaa.M Go.Proofs.YtmkafmgbmbgogaaW.PrintWords Go.Proofs.YtmkafmgbmbgogaaW.PrintLast Go.Proofs.YtmkafmgbmbgogaaW.PrintMore
set_option linter.unusedVariables false
set_option linter.unusedSimpArgs false

theorem FnEvalProduct : laws_FnEvalProduct.Pure := by
  intro s _ _ _
  by_cases hl : 1048576 < s.length
  · refine ⟨0, ?_⟩
    unfold laws_FnEvalProduct.f
    simp (disch := omega) only [↓bnd (big_no hl), ↓Option.bind_some, ↓reduceIte, ↓if_pos, ↓if_neg, if_pos, if_neg, w64, Bool.not_true, Bool.not_false, Bool.false_eq_true]
  obtain ⟨f, a, b, hla, hlb, K1, h1⟩ := DrawCompose_ok (s := s) (by omega)
  obtain ⟨ba, ⟨K2, h2⟩, hpa⟩ := PolyOk_any f (a := a) (by omega)
  obtain ⟨bb, ⟨K3, h3⟩, hpb⟩ := PolyOk_any f (a := b) (by omega)
  have hbig := big_ok (s := s) (by omega)
  have stop : ba = false ∨ bb = false → ∃ k, laws_FnEvalProduct.f k s = some true := by
    intro hs
    obtain ⟨KK, hKK⟩ : ∃ KK, KK = K1 + K2 + K3 := ⟨_, rfl⟩
    refine ⟨KK + 3, ?_⟩
    unfold laws_FnEvalProduct.f
    cases ba with
    | false => simp (disch := omega) only [↓bnd hbig, laws_FnEvalProduct.j0, ↓bnd (h1 (KK + 3) (by omega)), ↓bnd (h1 (KK + 2) (by omega)), ↓bnd (h1 (KK + 1) (by omega)), ↓bnd (h1 KK (by omega)), ↓bnd (h2 (KK + 3) (by omega)), ↓bnd (h2 (KK + 2) (by omega)), ↓bnd (h2 (KK + 1) (by omega)), ↓bnd (h2 KK (by omega)), ↓bnd (h3 (KK + 3) (by omega)), ↓bnd (h3 (KK + 2) (by omega)), ↓bnd (h3 (KK + 1) (by omega)), ↓bnd (h3 KK (by omega)), ↓Option.bind_some, ↓reduceIte, ↓if_pos, ↓if_neg, if_pos, if_neg, w64, Bool.not_true, Bool.not_false, Bool.false_eq_true]
    | true =>
      cases bb with
      | false => simp (disch := omega) only [↓bnd hbig, laws_FnEvalProduct.j0, ↓bnd (h1 (KK + 3) (by omega)), ↓bnd (h1 (KK + 2) (by omega)), ↓bnd (h1 (KK + 1) (by omega)), ↓bnd (h1 KK (by omega)), ↓bnd (h2 (KK + 3) (by omega)), ↓bnd (h2 (KK + 2) (by omega)), ↓bnd (h2 (KK + 1) (by omega)), ↓bnd (h2 KK (by omega)), ↓bnd (h3 (KK + 3) (by omega)), ↓bnd (h3 (KK + 2) (by omega)), ↓bnd (h3 (KK + 1) (by omega)), ↓bnd (h3 KK (by omega)), ↓Option.bind_some, ↓reduceIte, ↓if_pos, ↓if_neg, if_pos, if_neg, w64, Bool.not_true, Bool.not_false, Bool.false_eq_true]
      | true => rcases hs with c | c <;> cases c
  cases ba with
  | false => exact stop (.inl rfl)
  | true =>
    cases bb with
    | false => exact stop (.inr rfl)
    | true =>
      obtain ⟨p, g, t, h, ha⟩ := hpa rfl
      obtain ⟨p', g', t', h', hb⟩ := hpb rfl
      rw [← h.p_eq h'] at hb
      have r := h.isF.rng
      have hml := ml_len p a b
      obtain ⟨x, hx⟩ := at_ok s (i := 1) (by omega)
      obtain ⟨K4, h4⟩ := cp_ok (l := a) (by omega)
      obtain ⟨K5, h5⟩ := cp_ok (l := b) (by omega)
      obtain ⟨K6, h6⟩ := iMulP_ok h ha hb
      obtain ⟨K7, h7⟩ := iEval_ok h (pk_of (l := ml p a b) (by omega) (ml_els (by omega) _ _) (ml_top _ _ _)) x
      obtain ⟨K8, h8⟩ := sEval_ok h ha x
      obtain ⟨K9, h9⟩ := sEval_ok h hb x
      obtain ⟨K10, h10⟩ := sComp_ok h ha hb
      obtain ⟨K11, h11⟩ := iComp_ok h ha hb
      obtain ⟨K12, h12⟩ := sEval_ok h ha (vl p b x)
      have h13 := Mul_ok h (vl p a x) (vl p b x)
      rw [show mp p a b = (ml p a b, true) by unfold mp; rw [if_neg (by omega)]] at h6
      rw [vl_ml (by omega)] at h7
      by_cases c : cbig a b
      · have e : cpo p a b = ([], false) := by unfold cpo; rw [if_pos c]
        rw [e] at h10 h11
        obtain ⟨KK, hKK⟩ : ∃ KK, KK = K1 + K2 + K3 + K4 + K5 + K6 + K7 + K8 + K9 + K10 + K11 := ⟨_, rfl⟩
        refine ⟨KK + 3, ?_⟩
        unfold laws_FnEvalProduct.f
        simp (disch := omega) only [↓bnd hbig, ↓bnd hx, ↓bnd h13, bne_self_eq_false, beq_self_eq_true, laws_FnEvalProduct.j0, laws_FnEvalProduct.j1, ↓bnd (h1 (KK + 3) (by omega)), ↓bnd (h1 (KK + 2) (by omega)), ↓bnd (h1 (KK + 1) (by omega)), ↓bnd (h1 KK (by omega)), ↓bnd (h2 (KK + 3) (by omega)), ↓bnd (h2 (KK + 2) (by omega)), ↓bnd (h2 (KK + 1) (by omega)), ↓bnd (h2 KK (by omega)), ↓bnd (h3 (KK + 3) (by omega)), ↓bnd (h3 (KK + 2) (by omega)), ↓bnd (h3 (KK + 1) (by omega)), ↓bnd (h3 KK (by omega)), ↓bnd (h4 (KK + 3) (by omega)), ↓bnd (h4 (KK + 2) (by omega)), ↓bnd (h4 (KK + 1) (by omega)), ↓bnd (h4 KK (by omega)), ↓bnd (h5 (KK + 3) (by omega)), ↓bnd (h5 (KK + 2) (by omega)), ↓bnd (h5 (KK + 1) (by omega)), ↓bnd (h5 KK (by omega)), ↓bnd (h6 (KK + 3) (by omega)), ↓bnd (h6 (KK + 2) (by omega)), ↓bnd (h6 (KK + 1) (by omega)), ↓bnd (h6 KK (by omega)), ↓bnd (h7 (KK + 3) (by omega)), ↓bnd (h7 (KK + 2) (by omega)), ↓bnd (h7 (KK + 1) (by omega)), ↓bnd (h7 KK (by omega)), ↓bnd (h8 (KK + 3) (by omega)), ↓bnd (h8 (KK + 2) (by omega)), ↓bnd (h8 (KK + 1) (by omega)), ↓bnd (h8 KK (by omega)), ↓bnd (h9 (KK + 3) (by omega)), ↓bnd (h9 (KK + 2) (by omega)), ↓bnd (h9 (KK + 1) (by omega)), ↓bnd (h9 KK (by omega)), ↓bnd (h10 (KK + 3) (by omega)), ↓bnd (h10 (KK + 2) (by omega)), ↓bnd (h10 (KK + 1) (by omega)), ↓bnd (h10 KK (by omega)), ↓bnd (h11 (KK + 3) (by omega)), ↓bnd (h11 (KK + 2) (by omega)), ↓bnd (h11 (KK + 1) (by omega)), ↓bnd (h11 KK (by omega)), ↓Option.bind_some, ↓reduceIte, ↓if_pos, ↓if_neg, if_pos, if_neg, w64, Bool.not_true, Bool.not_false, Bool.false_eq_true]
      · have e : cpo p a b = (cm p a b a.length, true) := by unfold cpo; rw [if_neg c]
        rw [e] at h10 h11
        have hcl : (cm p a b a.length).length ≤ 400 := by
          have h1 := (cm_len p a b a.length).1
          by_cases ca : a.length = 0
          · rw [ca, Nat.zero_sub, Nat.zero_mul] at h1; rw [ca]; omega
          · have h2 := cm_len p a b a.length
            unfold cbig at c
            by_cases c1 : 1 < a.length
            · by_cases c2 : 1 < b.length
              · omega
              · rw [show b.length - 1 = 0 by omega, Nat.mul_zero] at h1; omega
            · rw [show a.length - 1 = 0 by omega, Nat.zero_mul] at h1; omega
        obtain ⟨K14, h14⟩ := iEval_ok h (pk_of hcl (cm_els (by omega) _ _ _) (cm_top _ _ _ _)) x
        rw [vl_cm (by omega)] at h14
        obtain ⟨KK, hKK⟩ : ∃ KK, KK = K1 + K2 + K3 + K4 + K5 + K6 + K7 + K8 + K9 + K10 + K11 + K12 + K14 := ⟨_, rfl⟩
        refine ⟨KK + 3, ?_⟩
        unfold laws_FnEvalProduct.f
        simp (disch := omega) only [↓bnd hbig, ↓bnd hx, ↓bnd h13, bne_self_eq_false, beq_self_eq_true, laws_FnEvalProduct.j0, laws_FnEvalProduct.j1, ↓bnd (h1 (KK + 3) (by omega)), ↓bnd (h1 (KK + 2) (by omega)), ↓bnd (h1 (KK + 1) (by omega)), ↓bnd (h1 KK (by omega)), ↓bnd (h2 (KK + 3) (by omega)), ↓bnd (h2 (KK + 2) (by omega)), ↓bnd (h2 (KK + 1) (by omega)), ↓bnd (h2 KK (by omega)), ↓bnd (h3 (KK + 3) (by omega)), ↓bnd (h3 (KK + 2) (by omega)), ↓bnd (h3 (KK + 1) (by omega)), ↓bnd (h3 KK (by omega)), ↓bnd (h4 (KK + 3) (by omega)), ↓bnd (h4 (KK + 2) (by omega)), ↓bnd (h4 (KK + 1) (by omega)), ↓bnd (h4 KK (by omega)), ↓bnd (h5 (KK + 3) (by omega)), ↓bnd (h5 (KK + 2) (by omega)), ↓bnd (h5 (KK + 1) (by omega)), ↓bnd (h5 KK (by omega)), ↓bnd (h6 (KK + 3) (by omega)), ↓bnd (h6 (KK + 2) (by omega)), ↓bnd (h6 (KK + 1) (by omega)), ↓bnd (h6 KK (by omega)), ↓bnd (h7 (KK + 3) (by omega)), ↓bnd (h7 (KK + 2) (by omega)), ↓bnd (h7 (KK + 1) (by omega)), ↓bnd (h7 KK (by omega)), ↓bnd (h8 (KK + 3) (by omega)), ↓bnd (h8 (KK + 2) (by omega)), ↓bnd (h8 (KK + 1) (by omega)), ↓bnd (h8 KK (by omega)), ↓bnd (h9 (KK + 3) (by omega)), ↓bnd (h9 (KK + 2) (by omega)), ↓bnd (h9 (KK + 1) (by omega)), ↓bnd (h9 KK (by omega)), ↓bnd (h10 (KK + 3) (by omega)), ↓bnd (h10 (KK + 2) (by omega)), ↓bnd (h10 (KK + 1) (by omega)), ↓bnd (h10 KK (by omega)), ↓bnd (h11 (KK + 3) (by omega)), ↓bnd (h11 (KK + 2) (by omega)), ↓bnd (h11 (KK + 1) (by omega)), ↓bnd (h11 KK (by omega)), ↓bnd (h12 (KK + 3) (by omega)), ↓bnd (h12 (KK + 2) (by omega)), ↓bnd (h12 (KK + 1) (by omega)), ↓bnd (h12 KK (by omega)), ↓bnd (h14 (KK + 3) (by omega)), ↓bnd (h14 (KK + 2) (by omega)), ↓bnd (h14 (KK + 1) (by omega)), ↓bnd (h14 KK (by omega)), ↓Option.bind_some, ↓reduceIte, ↓if_pos, ↓if_neg, if_pos, if_neg, w64, Bool.not_true, Bool.not_false, Bool.false_eq_true]

end Go.Proofs.Ytmkafmgbmbgogaa.Pure
