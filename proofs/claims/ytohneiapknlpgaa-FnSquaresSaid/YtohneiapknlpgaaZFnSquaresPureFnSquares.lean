import Derived.Test.YtohneiapknlpgaaG0
/- The program's SquareRoot of a square is the smaller of the element and its negative, for the numbers drawn. No condition: for every argument. -/
import Derived.Test.YtohneiapknlpgaaZFnSquaresMi
import Derived.Test.YtohneiapknlpgaaZFnSquaresMk
import Derived.Test.YtohneiapknlpgaaZFnSquaresMq
import Derived.Test.YtohneiapknlpgaaZFnSquares2
namespace Go.Proofs.Ytohneiapknlpgaa.Pure
open Go.RowKit Go.Proofs.Ytohneiapknlpgaa.P Go.Proofs.Ytohneiapknlpgaa.M Go.Proofs.YtohneiapknlpgaaW.PrintWords Go.Proofs.YtohneiapknlpgaaW.PrintLast Go.Proofs.YtohneiapknlpgaaW.PrintMore
set_option linter.unusedVariables false
set_option linter.unusedSimpArgs false

theorem FnSquares : laws_FnSquares.Pure := by
  intro s _ _ _
  by_cases hl : 1048576 < s.length
  · refine ⟨0, ?_⟩
    unfold laws_FnSquares.f
    simp (disch := omega) only [↓bnd (big_no hl), ↓Option.bind_some, ↓reduceIte, ↓if_pos, ↓if_neg, if_pos, if_neg, w64, Bool.not_true, Bool.not_false, Bool.false_eq_true]
  obtain ⟨f, a, ⟨K1, h1⟩, _⟩ := DrawReduce_ok (s := s) (by omega)
  rcases FI.cases f with ⟨p, g, t, h⟩ | h
  · have r := h.isF.rng
    have q := emod_rng (p := p) (by omega) a
    have qb := emod_rng (p := p) (by omega) (a * a)
    have ho := h.isF.p_odd
    obtain ⟨x, ex⟩ : ∃ x, x = a % p := ⟨_, rfl⟩
    obtain ⟨b, eb⟩ : ∃ b, b = a * a % p := ⟨_, rfl⟩
    rw [← ex] at q
    rw [← eb] at qb
    have cx : Cg p x a := ex ▸ Cg.mod p a
    have cb : Cg p b (x * x) := eb ▸ ((Cg.mod p (a * a)).trans (cx.symm.mul cx.symm))
    have ebb : b % p = b := Int.emod_eq_of_lt qb.1 qb.2
    have key : Ev (fun k => impl_SquareRoot.f k f b) (mn x (p - x)) := by
      by_cases hz : Cg p a 0
      · have hx : x = 0 := (cx.trans hz).eq q.1 q.2 (by omega) (by omega)
        have hb : Cg p b 0 := cb.trans (Cg.of_eq (by rw [hx]; decide))
        rw [hx, mn_of_le (by omega)]
        exact iSqrt_zero h hb
      · have hx : ¬ Cg p x 0 := fun hc => hz (cx.symm.trans hc)
        have hb : ¬ Cg p b 0 := fun hc => hx (h.isF.integral (cb.symm.trans hc) hx)
        have he : Cg p ((b % p) ^ ((p.toNat - 1) / 2)) 1 := by
          rw [ebb]
          refine (cb.pow _).trans ((Cg.of_eq ?_).trans (h.isF.flt hx))
          rw [mul_pow_int, ← Int.pow_add, euler_half h.isF]
        obtain ⟨y, hy, ey⟩ := iSqrt_ok h hb he
        rw [ebb] at hy
        have := hy.uniq h.isF (SqR.of h.isF q.1 q.2 cb.symm hb)
        rw [this] at ey
        exact ey
    obtain ⟨K2, h2⟩ := key
    obtain ⟨KK, hKK⟩ : ∃ KK, KK = K1 + K2 := ⟨_, rfl⟩
    refine ⟨KK + 1, ?_⟩
    unfold laws_FnSquares.f
    by_cases hlt : p - x < x
    · rw [mn_of_lt hlt] at h2
      simp (disch := omega) only [↓bnd (big_ok (s := s) (by omega)), ↓bnd (isField_ok h), ↓bnd1 (Reduce_ok h), ↓bnd (Modulus_ok h), ↓bnd2 (iMul_ok h), ← ex, ← eb, beq_self_eq_true, ↓bnd (h1 (KK + 1) (by omega)), ↓bnd (h1 KK (by omega)), ↓bnd (h2 (KK + 1) (by omega)), ↓bnd (h2 KK (by omega)), ↓Option.bind_some, ↓reduceIte, ↓if_pos, ↓if_neg, if_pos, if_neg, w64, Bool.not_true, Bool.not_false, Bool.false_eq_true]
    · rw [mn_of_le (by omega)] at h2
      simp (disch := omega) only [↓bnd (big_ok (s := s) (by omega)), ↓bnd (isField_ok h), ↓bnd1 (Reduce_ok h), ↓bnd (Modulus_ok h), ↓bnd2 (iMul_ok h), ← ex, ← eb, beq_self_eq_true, ↓bnd (h1 (KK + 1) (by omega)), ↓bnd (h1 KK (by omega)), ↓bnd (h2 (KK + 1) (by omega)), ↓bnd (h2 KK (by omega)), ↓Option.bind_some, ↓reduceIte, ↓if_pos, ↓if_neg, if_pos, if_neg, w64, Bool.not_true, Bool.not_false, Bool.false_eq_true]
  · obtain ⟨KK, hKK⟩ : ∃ KK, KK = K1 := ⟨_, rfl⟩
    refine ⟨KK + 1, ?_⟩
    unfold laws_FnSquares.f
    simp (disch := omega) only [↓bnd (big_ok (s := s) (by omega)), ↓bnd (isField_no h), ↓bnd (h1 (KK + 1) (by omega)), ↓bnd (h1 KK (by omega)), ↓Option.bind_some, ↓reduceIte, ↓if_pos, ↓if_neg, if_pos, if_neg, w64, Bool.not_true, Bool.not_false, Bool.false_eq_true]

end Go.Proofs.Ytohneiapknlpgaa.Pure
