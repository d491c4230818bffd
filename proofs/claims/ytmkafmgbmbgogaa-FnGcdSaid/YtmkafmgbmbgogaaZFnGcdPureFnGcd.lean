import Derived.Test.YtmkafmgbmbgogaaZFnGcdG
/- GcdPoly divides both and is monic; of multiples by a monic polynomial it is the multiple. No condition: for every argument. -/
import Derived.Test.YtmkafmgbmbgogaaZFnGcdMkp
import Derived.Test.YtmkafmgbmbgogaaZFnGcdMgc
import Derived.Test.YtmkafmgbmbgogaaZFnGcd6
namespace Go.Proofs.Ytmkafmgbmbgogaa.Pure
open Go.RowKit Go.Proofs.Ytmkafmgbmbgogaa.P Go.Proofs.Ytmkafmgbmbgogaa.M Go.Proofs.YtmkafmgbmbgogaaW.PrintWords Go.Proofs.YtmkafmgbmbgogaaW.PrintLast Go.Proofs.YtmkafmgbmbgogaaW.PrintMore
set_option linter.unusedVariables false
set_option linter.unusedSimpArgs false

theorem at0_ok {s : List Int} (hs : ∀ x ∈ s, (Lit.int .u8 x).wf = true) : ∃ x, laws_at.f s 0 = some x ∧ 0 ≤ x := by
  unfold laws_at.f
  by_cases c : (0 : Int) < (s.length : Int)
  · rw [if_pos c, if_pos (Int.le_refl _)]
    have h := hs _ (rd_mem (l := s) (i := 0) (Int.le_refl _) c)
    refine ⟨_, rfl, ?_⟩
    have h2 : 0 ≤ rd s 0 ∧ rd s 0 ≤ 255 := by
      simp only [Lit.wf, Bool.and_eq_true, decide_eq_true_eq, IntKind.min, IntKind.max] at h
      simp [IntKind.signed, IntKind.bits] at h
      omega
    rw [w64 (by omega) (by omega)]
    exact h2.1
  · rw [if_neg c]
    refine ⟨_, rfl, ?_⟩
    rw [show ((s.length : Nat) : Int) = 0 by omega]
    simp (disch := omega) only [w64]
    decide
set_option maxHeartbeats 8000000 in
theorem FnGcd : laws_FnGcd.Pure := by
  intro s _ _ hu8
  by_cases hl : 1048576 < s.length
  · refine ⟨0, ?_⟩
    unfold laws_FnGcd.f
    simp (disch := omega) only [↓bnd (big_no hl), ↓Option.bind_some, ↓reduceIte, ↓if_pos, ↓if_neg, if_pos, if_neg, w64, Bool.not_true, Bool.not_false, Bool.false_eq_true]
  obtain ⟨f, a, b, hla, hlb, K1, h1⟩ := DrawGcd_ok (s := s) (by omega)
  obtain ⟨ba, ⟨K2, h2⟩, hpa⟩ := PolyOk_any f (a := a) (by omega)
  obtain ⟨bb, ⟨K3, h3⟩, hpb⟩ := PolyOk_any f (a := b) (by omega)
  have hbig := big_ok (s := s) (by omega)
  have stop : ba = false ∨ bb = false ∨ a.length + b.length = 0 → ∃ k, laws_FnGcd.f k s = some true := by
    intro hs
    obtain ⟨KK, hKK⟩ : ∃ KK, KK = K1 + K2 + K3 := ⟨_, rfl⟩
    refine ⟨KK + 3, ?_⟩
    unfold laws_FnGcd.f
    cases ba with
    | false => simp (disch := omega) only [↓bnd hbig, laws_FnGcd.j0, ↓bnd (h1 (KK + 3) (by omega)), ↓bnd (h1 (KK + 2) (by omega)), ↓bnd (h1 (KK + 1) (by omega)), ↓bnd (h1 KK (by omega)), ↓bnd (h2 (KK + 3) (by omega)), ↓bnd (h2 (KK + 2) (by omega)), ↓bnd (h2 (KK + 1) (by omega)), ↓bnd (h2 KK (by omega)), ↓bnd (h3 (KK + 3) (by omega)), ↓bnd (h3 (KK + 2) (by omega)), ↓bnd (h3 (KK + 1) (by omega)), ↓bnd (h3 KK (by omega)), ↓Option.bind_some, ↓reduceIte, ↓if_pos, ↓if_neg, if_pos, if_neg, w64, Bool.not_true, Bool.not_false, Bool.false_eq_true]
    | true =>
      cases bb with
      | false => simp (disch := omega) only [↓bnd hbig, laws_FnGcd.j0, ↓bnd (h1 (KK + 3) (by omega)), ↓bnd (h1 (KK + 2) (by omega)), ↓bnd (h1 (KK + 1) (by omega)), ↓bnd (h1 KK (by omega)), ↓bnd (h2 (KK + 3) (by omega)), ↓bnd (h2 (KK + 2) (by omega)), ↓bnd (h2 (KK + 1) (by omega)), ↓bnd (h2 KK (by omega)), ↓bnd (h3 (KK + 3) (by omega)), ↓bnd (h3 (KK + 2) (by omega)), ↓bnd (h3 (KK + 1) (by omega)), ↓bnd (h3 KK (by omega)), ↓Option.bind_some, ↓reduceIte, ↓if_pos, ↓if_neg, if_pos, if_neg, w64, Bool.not_true, Bool.not_false, Bool.false_eq_true]
      | true =>
        have e : ((a.length : Int) + (b.length : Int) == 0) = true := beq_iff_eq.2 (by rcases hs with c | c | c; cases c; cases c; omega)
        simp (disch := omega) only [↓bnd hbig, e, laws_FnGcd.j0, ↓bnd (h1 (KK + 3) (by omega)), ↓bnd (h1 (KK + 2) (by omega)), ↓bnd (h1 (KK + 1) (by omega)), ↓bnd (h1 KK (by omega)), ↓bnd (h2 (KK + 3) (by omega)), ↓bnd (h2 (KK + 2) (by omega)), ↓bnd (h2 (KK + 1) (by omega)), ↓bnd (h2 KK (by omega)), ↓bnd (h3 (KK + 3) (by omega)), ↓bnd (h3 (KK + 2) (by omega)), ↓bnd (h3 (KK + 1) (by omega)), ↓bnd (h3 KK (by omega)), ↓Option.bind_some, ↓reduceIte, ↓if_pos, ↓if_neg, if_pos, if_neg, w64, Bool.not_true, Bool.not_false, Bool.false_eq_true]
  cases ba with
  | false => exact stop (.inl rfl)
  | true =>
    cases bb with
    | false => exact stop (.inr (.inl rfl))
    | true =>
      by_cases h0 : a.length + b.length = 0
      · exact stop (.inr (.inr h0))
      obtain ⟨p, g, t, h, ha⟩ := hpa rfl
      obtain ⟨p', g', t', h', hb⟩ := hpb rfl
      rw [← h.p_eq h'] at hb
      have r := h.isF.rng
      have ha4 := pk_len ha
      have hb4 := pk_len hb
      obtain ⟨g1, g2, g3, g4, g5, g6⟩ := gcd_facts h.isF ha hb (by omega)
      obtain ⟨x, hx, hx0⟩ := at0_ok hu8
      have q := emod_rng (p := p) (by omega) x
      have hd : pk p [x % p, 1] = true := pk_of (by simp) (by simp [els, q.1, q.2]; omega) (.inr (by show (1 : Int) ≠ 0; decide))
      have hdm : rd [x % p, 1] (([x % p, 1].length - 1 : Nat) : Int) = 1 := rfl
      have hdl : [x % p, 1].length = 2 := rfl
      generalize hD : [x % p, 1] = d at hd hdm hdl
      obtain ⟨K4, h4⟩ := cp_ok (l := a) (by omega)
      obtain ⟨K5, h5⟩ := cp_ok (l := b) (by omega)
      obtain ⟨K6, h6⟩ := iGcd_ok h ha hb
      obtain ⟨K7, h7⟩ := cp_ok (l := gcd p a b) (by omega)
      obtain ⟨K8, h8⟩ := iDivP_ok h ha g3
      obtain ⟨K9, h9⟩ := iDivP_ok h hb g3
      obtain ⟨K10, h10⟩ := sMulP_ok h ha hd
      obtain ⟨K11, h11⟩ := sMulP_ok h hb hd
      obtain ⟨K12, h12⟩ := sGcd_ok h ha hb
      obtain ⟨K13, h13⟩ := sMulP_ok h g3 hd
      have hM := Modulus_ok h
      rw [show dmo p a (gcd p a b) = ((dm p a (gcd p a b)).1, [], true) by unfold dmo; rw [if_neg (by omega), show (dm p a (gcd p a b)).2 = [] from g4]] at h8
      rw [show dmo p b (gcd p a b) = ((dm p b (gcd p a b)).1, [], true) by unfold dmo; rw [if_neg (by omega), show (dm p b (gcd p a b)).2 = [] from g5]] at h9
      have e0 : ((a.length : Int) + (b.length : Int) == 0) = false := beq_eq_false_iff_ne.2 (by omega)
      have e1 : (((gcd p a b).length : Int) - 1) = (((gcd p a b).length - 1 : Nat) : Int) := by omega
      have e2 : (rd (gcd p a b) (((gcd p a b).length - 1 : Nat) : Int) != 1) = false := by rw [g2]; rfl
      have e3 : decide ((0 : Int) > 0) = false := rfl
      have e4 : ((([] : List Int).length : Int) + (([] : List Int).length : Int)) = 0 := rfl
      have e5 : Int.tmod x p = x % p := tmod_pos hx0
      by_cases c1 : 400 < (ml p a d).length
      · rw [show mp p a d = ([], false) by unfold mp; rw [if_pos c1]] at h10
        obtain ⟨KK, hKK⟩ : ∃ KK, KK = K1 + K2 + K3 + K4 + K5 + K6 + K7 + K8 + K9 + K10 + K11 := ⟨_, rfl⟩
        refine ⟨KK + 5, ?_⟩
        unfold laws_FnGcd.f
        simp (disch := omega) only [↓bnd hbig, e0, e1, e2, e3, e4, e5, hD, ↓bnd hx, ↓bnd hM, laws_FnGcd.j0, laws_FnGcd.j1, laws_FnGcd.j2, laws_FnGcd.j3, ↓bnd (h1 (KK + 5) (by omega)), ↓bnd (h1 (KK + 4) (by omega)), ↓bnd (h1 (KK + 3) (by omega)), ↓bnd (h1 (KK + 2) (by omega)), ↓bnd (h1 (KK + 1) (by omega)), ↓bnd (h1 KK (by omega)), ↓bnd (h2 (KK + 5) (by omega)), ↓bnd (h2 (KK + 4) (by omega)), ↓bnd (h2 (KK + 3) (by omega)), ↓bnd (h2 (KK + 2) (by omega)), ↓bnd (h2 (KK + 1) (by omega)), ↓bnd (h2 KK (by omega)), ↓bnd (h3 (KK + 5) (by omega)), ↓bnd (h3 (KK + 4) (by omega)), ↓bnd (h3 (KK + 3) (by omega)), ↓bnd (h3 (KK + 2) (by omega)), ↓bnd (h3 (KK + 1) (by omega)), ↓bnd (h3 KK (by omega)), ↓bnd (h4 (KK + 5) (by omega)), ↓bnd (h4 (KK + 4) (by omega)), ↓bnd (h4 (KK + 3) (by omega)), ↓bnd (h4 (KK + 2) (by omega)), ↓bnd (h4 (KK + 1) (by omega)), ↓bnd (h4 KK (by omega)), ↓bnd (h5 (KK + 5) (by omega)), ↓bnd (h5 (KK + 4) (by omega)), ↓bnd (h5 (KK + 3) (by omega)), ↓bnd (h5 (KK + 2) (by omega)), ↓bnd (h5 (KK + 1) (by omega)), ↓bnd (h5 KK (by omega)), ↓bnd (h6 (KK + 5) (by omega)), ↓bnd (h6 (KK + 4) (by omega)), ↓bnd (h6 (KK + 3) (by omega)), ↓bnd (h6 (KK + 2) (by omega)), ↓bnd (h6 (KK + 1) (by omega)), ↓bnd (h6 KK (by omega)), ↓bnd (h7 (KK + 5) (by omega)), ↓bnd (h7 (KK + 4) (by omega)), ↓bnd (h7 (KK + 3) (by omega)), ↓bnd (h7 (KK + 2) (by omega)), ↓bnd (h7 (KK + 1) (by omega)), ↓bnd (h7 KK (by omega)), ↓bnd (h8 (KK + 5) (by omega)), ↓bnd (h8 (KK + 4) (by omega)), ↓bnd (h8 (KK + 3) (by omega)), ↓bnd (h8 (KK + 2) (by omega)), ↓bnd (h8 (KK + 1) (by omega)), ↓bnd (h8 KK (by omega)), ↓bnd (h9 (KK + 5) (by omega)), ↓bnd (h9 (KK + 4) (by omega)), ↓bnd (h9 (KK + 3) (by omega)), ↓bnd (h9 (KK + 2) (by omega)), ↓bnd (h9 (KK + 1) (by omega)), ↓bnd (h9 KK (by omega)), ↓bnd (h10 (KK + 5) (by omega)), ↓bnd (h10 (KK + 4) (by omega)), ↓bnd (h10 (KK + 3) (by omega)), ↓bnd (h10 (KK + 2) (by omega)), ↓bnd (h10 (KK + 1) (by omega)), ↓bnd (h10 KK (by omega)), ↓bnd (h11 (KK + 5) (by omega)), ↓bnd (h11 (KK + 4) (by omega)), ↓bnd (h11 (KK + 3) (by omega)), ↓bnd (h11 (KK + 2) (by omega)), ↓bnd (h11 (KK + 1) (by omega)), ↓bnd (h11 KK (by omega)), ↓Option.bind_some, ↓reduceIte, ↓if_pos, ↓if_neg, if_pos, if_neg, w64, Bool.not_true, Bool.not_false, Bool.false_eq_true]
      rw [show mp p a d = (ml p a d, true) by unfold mp; rw [if_neg c1]] at h10
      by_cases c2 : 400 < (ml p b d).length
      · rw [show mp p b d = ([], false) by unfold mp; rw [if_pos c2]] at h11
        obtain ⟨KK, hKK⟩ : ∃ KK, KK = K1 + K2 + K3 + K4 + K5 + K6 + K7 + K8 + K9 + K10 + K11 := ⟨_, rfl⟩
        refine ⟨KK + 5, ?_⟩
        unfold laws_FnGcd.f
        simp (disch := omega) only [↓bnd hbig, e0, e1, e2, e3, e4, e5, hD, ↓bnd hx, ↓bnd hM, laws_FnGcd.j0, laws_FnGcd.j1, laws_FnGcd.j2, laws_FnGcd.j3, ↓bnd (h1 (KK + 5) (by omega)), ↓bnd (h1 (KK + 4) (by omega)), ↓bnd (h1 (KK + 3) (by omega)), ↓bnd (h1 (KK + 2) (by omega)), ↓bnd (h1 (KK + 1) (by omega)), ↓bnd (h1 KK (by omega)), ↓bnd (h2 (KK + 5) (by omega)), ↓bnd (h2 (KK + 4) (by omega)), ↓bnd (h2 (KK + 3) (by omega)), ↓bnd (h2 (KK + 2) (by omega)), ↓bnd (h2 (KK + 1) (by omega)), ↓bnd (h2 KK (by omega)), ↓bnd (h3 (KK + 5) (by omega)), ↓bnd (h3 (KK + 4) (by omega)), ↓bnd (h3 (KK + 3) (by omega)), ↓bnd (h3 (KK + 2) (by omega)), ↓bnd (h3 (KK + 1) (by omega)), ↓bnd (h3 KK (by omega)), ↓bnd (h4 (KK + 5) (by omega)), ↓bnd (h4 (KK + 4) (by omega)), ↓bnd (h4 (KK + 3) (by omega)), ↓bnd (h4 (KK + 2) (by omega)), ↓bnd (h4 (KK + 1) (by omega)), ↓bnd (h4 KK (by omega)), ↓bnd (h5 (KK + 5) (by omega)), ↓bnd (h5 (KK + 4) (by omega)), ↓bnd (h5 (KK + 3) (by omega)), ↓bnd (h5 (KK + 2) (by omega)), ↓bnd (h5 (KK + 1) (by omega)), ↓bnd (h5 KK (by omega)), ↓bnd (h6 (KK + 5) (by omega)), ↓bnd (h6 (KK + 4) (by omega)), ↓bnd (h6 (KK + 3) (by omega)), ↓bnd (h6 (KK + 2) (by omega)), ↓bnd (h6 (KK + 1) (by omega)), ↓bnd (h6 KK (by omega)), ↓bnd (h7 (KK + 5) (by omega)), ↓bnd (h7 (KK + 4) (by omega)), ↓bnd (h7 (KK + 3) (by omega)), ↓bnd (h7 (KK + 2) (by omega)), ↓bnd (h7 (KK + 1) (by omega)), ↓bnd (h7 KK (by omega)), ↓bnd (h8 (KK + 5) (by omega)), ↓bnd (h8 (KK + 4) (by omega)), ↓bnd (h8 (KK + 3) (by omega)), ↓bnd (h8 (KK + 2) (by omega)), ↓bnd (h8 (KK + 1) (by omega)), ↓bnd (h8 KK (by omega)), ↓bnd (h9 (KK + 5) (by omega)), ↓bnd (h9 (KK + 4) (by omega)), ↓bnd (h9 (KK + 3) (by omega)), ↓bnd (h9 (KK + 2) (by omega)), ↓bnd (h9 (KK + 1) (by omega)), ↓bnd (h9 KK (by omega)), ↓bnd (h10 (KK + 5) (by omega)), ↓bnd (h10 (KK + 4) (by omega)), ↓bnd (h10 (KK + 3) (by omega)), ↓bnd (h10 (KK + 2) (by omega)), ↓bnd (h10 (KK + 1) (by omega)), ↓bnd (h10 KK (by omega)), ↓bnd (h11 (KK + 5) (by omega)), ↓bnd (h11 (KK + 4) (by omega)), ↓bnd (h11 (KK + 3) (by omega)), ↓bnd (h11 (KK + 2) (by omega)), ↓bnd (h11 (KK + 1) (by omega)), ↓bnd (h11 KK (by omega)), ↓Option.bind_some, ↓reduceIte, ↓if_pos, ↓if_neg, if_pos, if_neg, w64, Bool.not_true, Bool.not_false, Bool.false_eq_true]
      rw [show mp p b d = (ml p b d, true) by unfold mp; rw [if_neg c2]] at h11
      have la : 1 ≤ a.length → a.length + 1 ≤ 400 := fun c => by
        have := ml_length' h.isF (pk_els ha) (pk_top' ha) (pk_els hd) (pk_top' hd) c (by omega); omega
      have lb : 1 ≤ b.length → b.length + 1 ≤ 400 := fun c => by
        have := ml_length' h.isF (pk_els hb) (pk_top' hb) (pk_els hd) (pk_top' hd) c (by omega); omega
      have lg := ml_len p (gcd p a b) d
      have c3 : ¬ 400 < (ml p (gcd p a b) d).length := by omega
      rw [show mp p (gcd p a b) d = (ml p (gcd p a b) d, true) by unfold mp; rw [if_neg c3]] at h13
      obtain ⟨K14, h14⟩ := iGcd_ok h (pk_of (l := ml p a d) (by omega) (ml_els (by omega) _ _) (ml_top _ _ _)) (pk_of (l := ml p b d) (by omega) (ml_els (by omega) _ _) (ml_top _ _ _))
      rw [gcd_mul h.isF ha hb hd (by omega) hdm (by omega)] at h14
      obtain ⟨K15, h15⟩ := same_ok (l := ml p (gcd p a b) d) (by omega)
      obtain ⟨KK, hKK⟩ : ∃ KK, KK = K1 + K2 + K3 + K4 + K5 + K6 + K7 + K8 + K9 + K10 + K11 + K12 + K13 + K14 + K15 := ⟨_, rfl⟩
      refine ⟨KK + 5, ?_⟩
      unfold laws_FnGcd.f
      simp (disch := omega) only [↓bnd hbig, e0, e1, e2, e3, e4, e5, hD, ↓bnd hx, ↓bnd hM, laws_FnGcd.j0, laws_FnGcd.j1, laws_FnGcd.j2, laws_FnGcd.j3, ↓bnd (h1 (KK + 5) (by omega)), ↓bnd (h1 (KK + 4) (by omega)), ↓bnd (h1 (KK + 3) (by omega)), ↓bnd (h1 (KK + 2) (by omega)), ↓bnd (h1 (KK + 1) (by omega)), ↓bnd (h1 KK (by omega)), ↓bnd (h2 (KK + 5) (by omega)), ↓bnd (h2 (KK + 4) (by omega)), ↓bnd (h2 (KK + 3) (by omega)), ↓bnd (h2 (KK + 2) (by omega)), ↓bnd (h2 (KK + 1) (by omega)), ↓bnd (h2 KK (by omega)), ↓bnd (h3 (KK + 5) (by omega)), ↓bnd (h3 (KK + 4) (by omega)), ↓bnd (h3 (KK + 3) (by omega)), ↓bnd (h3 (KK + 2) (by omega)), ↓bnd (h3 (KK + 1) (by omega)), ↓bnd (h3 KK (by omega)), ↓bnd (h4 (KK + 5) (by omega)), ↓bnd (h4 (KK + 4) (by omega)), ↓bnd (h4 (KK + 3) (by omega)), ↓bnd (h4 (KK + 2) (by omega)), ↓bnd (h4 (KK + 1) (by omega)), ↓bnd (h4 KK (by omega)), ↓bnd (h5 (KK + 5) (by omega)), ↓bnd (h5 (KK + 4) (by omega)), ↓bnd (h5 (KK + 3) (by omega)), ↓bnd (h5 (KK + 2) (by omega)), ↓bnd (h5 (KK + 1) (by omega)), ↓bnd (h5 KK (by omega)), ↓bnd (h6 (KK + 5) (by omega)), ↓bnd (h6 (KK + 4) (by omega)), ↓bnd (h6 (KK + 3) (by omega)), ↓bnd (h6 (KK + 2) (by omega)), ↓bnd (h6 (KK + 1) (by omega)), ↓bnd (h6 KK (by omega)), ↓bnd (h7 (KK + 5) (by omega)), ↓bnd (h7 (KK + 4) (by omega)), ↓bnd (h7 (KK + 3) (by omega)), ↓bnd (h7 (KK + 2) (by omega)), ↓bnd (h7 (KK + 1) (by omega)), ↓bnd (h7 KK (by omega)), ↓bnd (h8 (KK + 5) (by omega)), ↓bnd (h8 (KK + 4) (by omega)), ↓bnd (h8 (KK + 3) (by omega)), ↓bnd (h8 (KK + 2) (by omega)), ↓bnd (h8 (KK + 1) (by omega)), ↓bnd (h8 KK (by omega)), ↓bnd (h9 (KK + 5) (by omega)), ↓bnd (h9 (KK + 4) (by omega)), ↓bnd (h9 (KK + 3) (by omega)), ↓bnd (h9 (KK + 2) (by omega)), ↓bnd (h9 (KK + 1) (by omega)), ↓bnd (h9 KK (by omega)), ↓bnd (h10 (KK + 5) (by omega)), ↓bnd (h10 (KK + 4) (by omega)), ↓bnd (h10 (KK + 3) (by omega)), ↓bnd (h10 (KK + 2) (by omega)), ↓bnd (h10 (KK + 1) (by omega)), ↓bnd (h10 KK (by omega)), ↓bnd (h11 (KK + 5) (by omega)), ↓bnd (h11 (KK + 4) (by omega)), ↓bnd (h11 (KK + 3) (by omega)), ↓bnd (h11 (KK + 2) (by omega)), ↓bnd (h11 (KK + 1) (by omega)), ↓bnd (h11 KK (by omega)), ↓bnd (h12 (KK + 5) (by omega)), ↓bnd (h12 (KK + 4) (by omega)), ↓bnd (h12 (KK + 3) (by omega)), ↓bnd (h12 (KK + 2) (by omega)), ↓bnd (h12 (KK + 1) (by omega)), ↓bnd (h12 KK (by omega)), ↓bnd (h13 (KK + 5) (by omega)), ↓bnd (h13 (KK + 4) (by omega)), ↓bnd (h13 (KK + 3) (by omega)), ↓bnd (h13 (KK + 2) (by omega)), ↓bnd (h13 (KK + 1) (by omega)), ↓bnd (h13 KK (by omega)), ↓bnd (h14 (KK + 5) (by omega)), ↓bnd (h14 (KK + 4) (by omega)), ↓bnd (h14 (KK + 3) (by omega)), ↓bnd (h14 (KK + 2) (by omega)), ↓bnd (h14 (KK + 1) (by omega)), ↓bnd (h14 KK (by omega)), ↓bnd (h15 (KK + 5) (by omega)), ↓bnd (h15 (KK + 4) (by omega)), ↓bnd (h15 (KK + 3) (by omega)), ↓bnd (h15 (KK + 2) (by omega)), ↓bnd (h15 (KK + 1) (by omega)), ↓bnd (h15 KK (by omega)), ↓Option.bind_some, ↓reduceIte, ↓if_pos, ↓if_neg, if_pos, if_neg, w64, Bool.not_true, Bool.not_false, Bool.false_eq_true]

end Go.Proofs.Ytmkafmgbmbgogaa.Pure
