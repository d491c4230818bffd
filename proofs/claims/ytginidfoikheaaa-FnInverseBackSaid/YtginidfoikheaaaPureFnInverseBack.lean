/- An element times its inverse is 1, and a^x times a^y is a^(x+y), of the program, for the numbers drawn. No condition: for every argument. -/
import Derived.Test.YtginidfoikheaaaMd
import Derived.Test.YtginidfoikheaaaMi
import Derived.Test.YtginidfoikheaaaMk
import Derived.Test.YtginidfoikheaaaGYFnInverseBack
namespace Go.Proofs.Ytginidfoikheaaa.Pure
open Go.RowKit Go.Proofs.Ytginidfoikheaaa.P Go.Proofs.Ytginidfoikheaaa.M Go.Proofs.YtginidfoikheaaaW.PrintWords Go.Proofs.YtginidfoikheaaaW.PrintLast Go.Proofs.YtginidfoikheaaaW.PrintMore
set_option linter.unusedVariables false
set_option linter.unusedSimpArgs false

theorem FnInverseBack : laws_FnInverseBack.Pure := by
  intro l _ _ _
  by_cases hl : 1048576 < l.length
  · refine ⟨0, ?_⟩
    unfold laws_FnInverseBack.f
    simp (disch := omega) only [↓bnd (big_no hl), ↓Option.bind_some, ↓reduceIte, ↓if_pos, ↓if_neg, if_pos, if_neg, w64, Bool.not_true, Bool.not_false, Bool.false_eq_true]
  obtain ⟨f, a, x, ⟨K1, h1⟩, _, rx⟩ := DrawPower_ok (s := l) (by omega)
  obtain ⟨m, hm, K2, h2⟩ := alt_ok (s := l) (by omega) 3
  obtain ⟨f', y, ⟨K3, h3⟩, ry⟩ := DrawReduce_ok (s := m) (by omega)
  rcases FI.cases f with ⟨p, g, t, h⟩ | h
  · have r := h.isF.rng
    by_cases ha : Cg p a 0
    · have e0 : (a % p == 0) = true := beq_iff_eq.mpr (ha.emod_of (by omega) (by omega))
      obtain ⟨KK, hKK⟩ : ∃ KK, KK = K1 + K2 + K3 := ⟨_, rfl⟩
      refine ⟨KK + 1, ?_⟩
      unfold laws_FnInverseBack.f
      simp (disch := omega) only [↓bnd (big_ok (s := l) (by omega)), ↓bnd (isField_ok h), ↓bnd1 (Reduce_ok h), e0, laws_FnInverseBack.j0, ↓bnd (h1 (KK + 1) (by omega)), ↓bnd (h1 KK (by omega)), ↓bnd (h2 (KK + 1) (by omega)), ↓bnd (h2 KK (by omega)), ↓bnd (h3 (KK + 1) (by omega)), ↓bnd (h3 KK (by omega)), ↓Option.bind_some, ↓reduceIte, ↓if_pos, ↓if_neg, if_pos, if_neg, w64, Bool.not_true, Bool.not_false, Bool.false_eq_true]
    · have hA : ¬ Cg p (a % p) 0 := fun hc => ha ((Cg.mod p a).symm.trans hc)
      have e0 : (a % p == 0) = false := beq_eq_false_iff_ne.mpr (fun hc => ha ((Cg.mod p a).symm.trans (Cg.of_eq hc)))
      obtain ⟨K4, h4⟩ := iInverse_ok h ha
      have e1 : (a % p) ^ (p.toNat - 2) % p * a % p = 1 := (iv_mul h.isF ha).emod_of (by omega) (by omega)
      by_cases hr : (x > 2305843009213693952 ∨ x < -2305843009213693952) ∨ (y > 2305843009213693952 ∨ y < -2305843009213693952)
      · obtain ⟨KK, hKK⟩ : ∃ KK, KK = K1 + K2 + K3 + K4 := ⟨_, rfl⟩
        refine ⟨KK + 1 + 1, ?_⟩
        unfold laws_FnInverseBack.f
        simp (disch := omega) only [↓bnd (h1 (KK + 1 + 1) (by omega)), ↓bnd (h2 (KK + 1 + 1) (by omega)), ↓bnd (h3 (KK + 1 + 1) (by omega)), ↓bnd (big_ok (s := l) (by omega)), ↓bnd (isField_ok h), ↓bnd1 (Reduce_ok h), ↓bnd2 (iMul_ok h), e0, e1, laws_FnInverseBack.j0, ↓bnd (h4 (KK + 1) (by omega)), ↓bnd (h4 KK (by omega)), ↓Option.bind_some, ↓reduceIte, ↓if_pos, ↓if_neg, if_pos, if_neg, w64, Bool.not_true, Bool.not_false, Bool.false_eq_true]
        by_cases x1 : x > 2305843009213693952
        · simp (disch := omega) only [laws_FnInverseBack.j1, ↓Option.bind_some, ↓reduceIte, ↓if_pos, ↓if_neg, if_pos, if_neg, w64, Bool.not_true, Bool.not_false, Bool.false_eq_true]
        by_cases x2 : x < -2305843009213693952
        · simp (disch := omega) only [laws_FnInverseBack.j1, ↓Option.bind_some, ↓reduceIte, ↓if_pos, ↓if_neg, if_pos, if_neg, w64, Bool.not_true, Bool.not_false, Bool.false_eq_true]
        by_cases y1 : y > 2305843009213693952
        · simp (disch := omega) only [laws_FnInverseBack.j1, ↓Option.bind_some, ↓reduceIte, ↓if_pos, ↓if_neg, if_pos, if_neg, w64, Bool.not_true, Bool.not_false, Bool.false_eq_true]
        · have y2 : decide (y < -2305843009213693952) = true := decide_eq_true (by omega)
          simp (disch := omega) only [laws_FnInverseBack.j1, y2, ↓Option.bind_some, ↓reduceIte, ↓if_pos, ↓if_neg, if_pos, if_neg, w64, Bool.not_true, Bool.not_false, Bool.false_eq_true]
      · have rng : ∀ z : Int, ¬ (z > 2305843009213693952 ∨ z < -2305843009213693952) → -9223372036854775808 ≤ z ∧ z ≤ 9223372036854775807 := fun z hz => by omega
        have y2 : decide (y < -2305843009213693952) = false := decide_eq_false (by omega)
        obtain ⟨K5, h5⟩ := iPower_ok h ha (e := x) (by omega) (by omega)
        obtain ⟨K6, h6⟩ := iPower_ok h ha (e := y) (by omega) (by omega)
        obtain ⟨K7, h7⟩ := iPower_ok h ha (e := x + y) (by omega) (by omega)
        have q1 := emod_rng (p := p - 1) (by omega) x
        have q2 := emod_rng (p := p - 1) (by omega) y
        have q3 := emod_rng (p := p - 1) (by omega) (x + y)
        have e2 : ((a % p) ^ (x % (p - 1)).toNat % p * ((a % p) ^ (y % (p - 1)).toNat % p) % p == (a % p) ^ ((x + y) % (p - 1)).toNat % p) = true := by
          refine beq_iff_eq.mpr (Cg.emod_eq ?_)
          refine ((Cg.mod p _).mul (Cg.mod p _)).trans ?_
          rw [← Int.pow_add]
          refine h.isF.pow_cong hA ?_
          rw [Int.natCast_add, Int.toNat_of_nonneg q1.1, Int.toNat_of_nonneg q2.1, Int.toNat_of_nonneg q3.1, Int.emod_emod_of_dvd _ (Int.dvd_refl _)]
          exact ((Cg.mod (p - 1) x).add (Cg.mod (p - 1) y)).emod_eq
        obtain ⟨KK, hKK⟩ : ∃ KK, KK = K1 + K2 + K3 + K4 + K5 + K6 + K7 := ⟨_, rfl⟩
        refine ⟨KK + 1 + 1, ?_⟩
        unfold laws_FnInverseBack.f
        simp (disch := omega) only [↓bnd (h1 (KK + 1 + 1) (by omega)), ↓bnd (h2 (KK + 1 + 1) (by omega)), ↓bnd (h3 (KK + 1 + 1) (by omega)), ↓bnd (big_ok (s := l) (by omega)), ↓bnd (isField_ok h), ↓bnd1 (Reduce_ok h), ↓bnd2 (iMul_ok h), e0, e1, y2, e2, laws_FnInverseBack.j0, laws_FnInverseBack.j1, ↓bnd (h4 (KK + 1) (by omega)), ↓bnd (h4 KK (by omega)), ↓bnd (h5 (KK + 1) (by omega)), ↓bnd (h5 KK (by omega)), ↓bnd (h6 (KK + 1) (by omega)), ↓bnd (h6 KK (by omega)), ↓bnd (h7 (KK + 1) (by omega)), ↓bnd (h7 KK (by omega)), ↓Option.bind_some, ↓reduceIte, ↓if_pos, ↓if_neg, if_pos, if_neg, w64, Bool.not_true, Bool.not_false, Bool.false_eq_true]
  · obtain ⟨KK, hKK⟩ : ∃ KK, KK = K1 + K2 + K3 := ⟨_, rfl⟩
    refine ⟨KK + 1, ?_⟩
    unfold laws_FnInverseBack.f
    simp (disch := omega) only [↓bnd (big_ok (s := l) (by omega)), ↓bnd (isField_no h), laws_FnInverseBack.j0, ↓bnd (h1 (KK + 1) (by omega)), ↓bnd (h1 KK (by omega)), ↓bnd (h2 (KK + 1) (by omega)), ↓bnd (h2 KK (by omega)), ↓bnd (h3 (KK + 1) (by omega)), ↓bnd (h3 KK (by omega)), ↓Option.bind_some, ↓reduceIte, ↓if_pos, ↓if_neg, if_pos, if_neg, w64, Bool.not_true, Bool.not_false, Bool.false_eq_true]

end Go.Proofs.Ytginidfoikheaaa.Pure
