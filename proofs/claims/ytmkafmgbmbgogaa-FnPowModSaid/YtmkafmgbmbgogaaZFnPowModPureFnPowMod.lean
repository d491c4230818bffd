import Derived.Test.YtmkafmgbmbgogaaZFnPowModG
/- A power's remainder times the base leaves the next power's remainder. No condition: for every argument. -/
import Derived.Test.YtmkafmgbmbgogaaZFnPowModMkp
import Derived.Test.YtmkafmgbmbgogaaZFnPowModMpw
import Derived.Test.YtmkafmgbmbgogaaZFnPowMod8
namespace Go.Proofs.Ytmkafmgbmbgogaa.Pure
open Go.RowKit Go.Proofs.Ytmkafmgbmbgogaa.P Go.Proofs.Ytmkafmgbmbgogaa.M Go.Proofs.YtmkafmgbmbgogaaW.PrintWords Go.Proofs.YtmkafmgbmbgogaaW.PrintLast Go.Proofs.YtmkafmgbmbgogaaW.PrintMore
set_option linter.unusedVariables false
set_option linter.unusedSimpArgs false

theorem FnPowMod : laws_FnPowMod.Pure := by
  intro s _ _ _
  by_cases hl : 1048576 < s.length
  · refine ⟨0, ?_⟩
    unfold laws_FnPowMod.f
    simp (disch := omega) only [↓bnd (big_no hl), ↓Option.bind_some, ↓reduceIte, ↓if_pos, ↓if_neg, if_pos, if_neg, w64, Bool.not_true, Bool.not_false, Bool.false_eq_true]
  obtain ⟨f, a, e, b, hla, hlb, K1, h1⟩ := DrawPowMod_ok (s := s) (by omega)
  obtain ⟨ba, ⟨K2, h2⟩, hpa⟩ := PolyOk_any f (a := a) (by omega)
  obtain ⟨bb, ⟨K3, h3⟩, hpb⟩ := PolyOk_any f (a := b) (by omega)
  have hbig := big_ok (s := s) (by omega)
  have stop : ba = false ∨ bb = false ∨ b.length = 0 ∨ e < 0 ∨ 1000000 ≤ e → ∃ k, laws_FnPowMod.f k s = some true := by
    intro hs
    obtain ⟨KK, hKK⟩ : ∃ KK, KK = K1 + K2 + K3 := ⟨_, rfl⟩
    refine ⟨KK + 3, ?_⟩
    unfold laws_FnPowMod.f
    cases ba with
    | false => simp (disch := omega) only [↓bnd hbig, laws_FnPowMod.j0, ↓bnd (h1 (KK + 3) (by omega)), ↓bnd (h1 (KK + 2) (by omega)), ↓bnd (h1 (KK + 1) (by omega)), ↓bnd (h1 KK (by omega)), ↓bnd (h2 (KK + 3) (by omega)), ↓bnd (h2 (KK + 2) (by omega)), ↓bnd (h2 (KK + 1) (by omega)), ↓bnd (h2 KK (by omega)), ↓bnd (h3 (KK + 3) (by omega)), ↓bnd (h3 (KK + 2) (by omega)), ↓bnd (h3 (KK + 1) (by omega)), ↓bnd (h3 KK (by omega)), ↓Option.bind_some, ↓reduceIte, ↓if_pos, ↓if_neg, if_pos, if_neg, w64, Bool.not_true, Bool.not_false, Bool.false_eq_true]
    | true =>
      cases bb with
      | false => simp (disch := omega) only [↓bnd hbig, laws_FnPowMod.j0, ↓bnd (h1 (KK + 3) (by omega)), ↓bnd (h1 (KK + 2) (by omega)), ↓bnd (h1 (KK + 1) (by omega)), ↓bnd (h1 KK (by omega)), ↓bnd (h2 (KK + 3) (by omega)), ↓bnd (h2 (KK + 2) (by omega)), ↓bnd (h2 (KK + 1) (by omega)), ↓bnd (h2 KK (by omega)), ↓bnd (h3 (KK + 3) (by omega)), ↓bnd (h3 (KK + 2) (by omega)), ↓bnd (h3 (KK + 1) (by omega)), ↓bnd (h3 KK (by omega)), ↓Option.bind_some, ↓reduceIte, ↓if_pos, ↓if_neg, if_pos, if_neg, w64, Bool.not_true, Bool.not_false, Bool.false_eq_true]
      | true =>
        by_cases c0 : b.length = 0
        · simp (disch := omega) only [↓bnd hbig, laws_FnPowMod.j0, ↓bnd (h1 (KK + 3) (by omega)), ↓bnd (h1 (KK + 2) (by omega)), ↓bnd (h1 (KK + 1) (by omega)), ↓bnd (h1 KK (by omega)), ↓bnd (h2 (KK + 3) (by omega)), ↓bnd (h2 (KK + 2) (by omega)), ↓bnd (h2 (KK + 1) (by omega)), ↓bnd (h2 KK (by omega)), ↓bnd (h3 (KK + 3) (by omega)), ↓bnd (h3 (KK + 2) (by omega)), ↓bnd (h3 (KK + 1) (by omega)), ↓bnd (h3 KK (by omega)), ↓Option.bind_some, ↓reduceIte, ↓if_pos, ↓if_neg, if_pos, if_neg, w64, Bool.not_true, Bool.not_false, Bool.false_eq_true]
        · by_cases c1 : e < 0
          · simp (disch := omega) only [↓bnd hbig, laws_FnPowMod.j0, ↓bnd (h1 (KK + 3) (by omega)), ↓bnd (h1 (KK + 2) (by omega)), ↓bnd (h1 (KK + 1) (by omega)), ↓bnd (h1 KK (by omega)), ↓bnd (h2 (KK + 3) (by omega)), ↓bnd (h2 (KK + 2) (by omega)), ↓bnd (h2 (KK + 1) (by omega)), ↓bnd (h2 KK (by omega)), ↓bnd (h3 (KK + 3) (by omega)), ↓bnd (h3 (KK + 2) (by omega)), ↓bnd (h3 (KK + 1) (by omega)), ↓bnd (h3 KK (by omega)), ↓Option.bind_some, ↓reduceIte, ↓if_pos, ↓if_neg, if_pos, if_neg, w64, Bool.not_true, Bool.not_false, Bool.false_eq_true]
          · have hd : decide (e ≥ 1000000) = true := decide_eq_true (by rcases hs with c | c | c | c | c; cases c; cases c; omega; omega; omega)
            simp (disch := omega) only [↓bnd hbig, hd, laws_FnPowMod.j0, ↓bnd (h1 (KK + 3) (by omega)), ↓bnd (h1 (KK + 2) (by omega)), ↓bnd (h1 (KK + 1) (by omega)), ↓bnd (h1 KK (by omega)), ↓bnd (h2 (KK + 3) (by omega)), ↓bnd (h2 (KK + 2) (by omega)), ↓bnd (h2 (KK + 1) (by omega)), ↓bnd (h2 KK (by omega)), ↓bnd (h3 (KK + 3) (by omega)), ↓bnd (h3 (KK + 2) (by omega)), ↓bnd (h3 (KK + 1) (by omega)), ↓bnd (h3 KK (by omega)), ↓Option.bind_some, ↓reduceIte, ↓if_pos, ↓if_neg, if_pos, if_neg, w64, Bool.not_true, Bool.not_false, Bool.false_eq_true]
  cases ba with
  | false => exact stop (.inl rfl)
  | true =>
    cases bb with
    | false => exact stop (.inr (.inl rfl))
    | true =>
      by_cases c0 : b.length = 0
      · exact stop (.inr (.inr (.inl c0)))
      by_cases c1 : e < 0
      · exact stop (.inr (.inr (.inr (.inl c1))))
      by_cases c2 : 1000000 ≤ e
      · exact stop (.inr (.inr (.inr (.inr c2))))
      obtain ⟨p, g, t, h, ha⟩ := hpa rfl
      obtain ⟨p', g', t', h', hb⟩ := hpb rfl
      rw [← h.p_eq h'] at hb
      have r := h.isF.rng
      obtain ⟨n, rfl⟩ := Int.eq_ofNat_of_zero_le (show 0 ≤ e by omega)
      have R1 := powm_Rd (p := p) (by omega) (b := b) (by omega) (n + 1) n (rm p [1] b) (rm p a b) (rm_Rd (p := p) (by omega) (by omega) (one_els (by omega)) one_top)
      have R2 := powm_Rd (p := p) (by omega) (b := b) (by omega) (n + 1 + 1) (n + 1) (rm p [1] b) (rm p a b) (rm_Rd (p := p) (by omega) (by omega) (one_els (by omega)) one_top)
      have hR1 := R1.1
      have hR2 := R2.1
      have hml := ml_len p (powm p b (n + 1) n (rm p [1] b) (rm p a b)) a
      obtain ⟨K4, h4⟩ := cp_ok (l := a) (by omega)
      obtain ⟨K5, h5⟩ := cp_ok (l := b) (by omega)
      obtain ⟨K6, h6⟩ := iPowM_ok h ha hb (n : Int)
      obtain ⟨K7, h7⟩ := iPowM_ok h ha hb ((n + 1 : Nat) : Int)
      obtain ⟨K8, h8⟩ := iMulP_ok h (pk_of (by omega) R1.2.1 R1.2.2) ha
      obtain ⟨K9, h9⟩ := iDivP_ok h (pk_of (l := ml p (powm p b (n + 1) n (rm p [1] b) (rm p a b)) a) (by omega) (ml_els (by omega) _ _) (ml_top _ _ _)) hb
      obtain ⟨K10, h10⟩ := same_ok (l := powm p b (n + 1 + 1) (n + 1) (rm p [1] b) (rm p a b)) (by omega)
      rw [show pmo p a (n : Int) b = (powm p b (n + 1) n (rm p [1] b) (rm p a b), true) by unfold pmo; rw [if_neg (by omega), Int.toNat_natCast]] at h6
      rw [show pmo p a ((n + 1 : Nat) : Int) b = (powm p b (n + 1 + 1) (n + 1) (rm p [1] b) (rm p a b), true) by unfold pmo; rw [if_neg (by omega), Int.toNat_natCast]] at h7
      rw [show mp p (powm p b (n + 1) n (rm p [1] b) (rm p a b)) a = (ml p (powm p b (n + 1) n (rm p [1] b) (rm p a b)) a, true) by unfold mp; rw [if_neg (by omega)]] at h8
      rw [show dmo p (ml p (powm p b (n + 1) n (rm p [1] b) (rm p a b)) a) b = ((dm p (ml p (powm p b (n + 1) n (rm p [1] b) (rm p a b)) a) b).1, rm p (ml p (powm p b (n + 1) n (rm p [1] b) (rm p a b)) a) b, true) by unfold dmo rm; rw [if_neg c0], powm_next h.isF ha hb (by omega)] at h9
      rw [show ((n + 1 : Nat) : Int) = (n : Int) + 1 by omega] at h7
      have hd : decide ((n : Int) ≥ 1000000) = false := decide_eq_false (by omega)
      obtain ⟨KK, hKK⟩ : ∃ KK, KK = K1 + K2 + K3 + K4 + K5 + K6 + K7 + K8 + K9 + K10 := ⟨_, rfl⟩
      refine ⟨KK + 3, ?_⟩
      unfold laws_FnPowMod.f
      simp (disch := omega) only [↓bnd hbig, hd, laws_FnPowMod.j0, laws_FnPowMod.j1, ↓bnd (h1 (KK + 3) (by omega)), ↓bnd (h1 (KK + 2) (by omega)), ↓bnd (h1 (KK + 1) (by omega)), ↓bnd (h1 KK (by omega)), ↓bnd (h2 (KK + 3) (by omega)), ↓bnd (h2 (KK + 2) (by omega)), ↓bnd (h2 (KK + 1) (by omega)), ↓bnd (h2 KK (by omega)), ↓bnd (h3 (KK + 3) (by omega)), ↓bnd (h3 (KK + 2) (by omega)), ↓bnd (h3 (KK + 1) (by omega)), ↓bnd (h3 KK (by omega)), ↓bnd (h4 (KK + 3) (by omega)), ↓bnd (h4 (KK + 2) (by omega)), ↓bnd (h4 (KK + 1) (by omega)), ↓bnd (h4 KK (by omega)), ↓bnd (h5 (KK + 3) (by omega)), ↓bnd (h5 (KK + 2) (by omega)), ↓bnd (h5 (KK + 1) (by omega)), ↓bnd (h5 KK (by omega)), ↓bnd (h6 (KK + 3) (by omega)), ↓bnd (h6 (KK + 2) (by omega)), ↓bnd (h6 (KK + 1) (by omega)), ↓bnd (h6 KK (by omega)), ↓bnd (h7 (KK + 3) (by omega)), ↓bnd (h7 (KK + 2) (by omega)), ↓bnd (h7 (KK + 1) (by omega)), ↓bnd (h7 KK (by omega)), ↓bnd (h8 (KK + 3) (by omega)), ↓bnd (h8 (KK + 2) (by omega)), ↓bnd (h8 (KK + 1) (by omega)), ↓bnd (h8 KK (by omega)), ↓bnd (h9 (KK + 3) (by omega)), ↓bnd (h9 (KK + 2) (by omega)), ↓bnd (h9 (KK + 1) (by omega)), ↓bnd (h9 KK (by omega)), ↓bnd (h10 (KK + 3) (by omega)), ↓bnd (h10 (KK + 2) (by omega)), ↓bnd (h10 (KK + 1) (by omega)), ↓bnd (h10 KK (by omega)), ↓Option.bind_some, ↓reduceIte, ↓if_pos, ↓if_neg, if_pos, if_neg, w64, Bool.not_true, Bool.not_false, Bool.false_eq_true]

end Go.Proofs.Ytmkafmgbmbgogaa.Pure
