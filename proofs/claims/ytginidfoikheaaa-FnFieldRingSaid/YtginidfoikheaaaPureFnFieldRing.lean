/- In each field multiplication distributes over addition, and subtraction inverts addition, of the program, for any three numbers drawn. No condition: for every argument. -/
import Derived.Test.YtginidfoikheaaaMd
import Derived.Test.YtginidfoikheaaaMk
import Derived.Test.YtginidfoikheaaaGYFnFieldRing
namespace Go.Proofs.Ytginidfoikheaaa.Pure
open Go.RowKit Go.Proofs.Ytginidfoikheaaa.P Go.Proofs.Ytginidfoikheaaa.M Go.Proofs.YtginidfoikheaaaW.PrintWords Go.Proofs.YtginidfoikheaaaW.PrintLast Go.Proofs.YtginidfoikheaaaW.PrintMore
set_option linter.unusedVariables false
set_option linter.unusedSimpArgs false

theorem FnFieldRing : laws_FnFieldRing.Pure := by
  intro l _ _ _
  by_cases hl : 1048576 < l.length
  · refine ⟨0, ?_⟩
    unfold laws_FnFieldRing.f
    simp (disch := omega) only [↓bnd (big_no hl), ↓Option.bind_some, ↓reduceIte, ↓if_pos, ↓if_neg, if_pos, if_neg, w64, Bool.not_true, Bool.not_false, Bool.false_eq_true]
  obtain ⟨f, a, b, ⟨K1, h1⟩, _⟩ := DrawMul_ok (s := l) (by omega)
  obtain ⟨m, hm, K2, h2⟩ := alt_ok (s := l) (by omega) 7
  obtain ⟨f', c, ⟨K3, h3⟩, _⟩ := DrawReduce_ok (s := m) (by omega)
  obtain ⟨KK, hKK⟩ : ∃ KK, KK = K1 + K2 + K3 := ⟨_, rfl⟩
  refine ⟨KK + 1, ?_⟩
  unfold laws_FnFieldRing.f
  rcases FI.cases f with ⟨p, g, t, h⟩ | h
  · have r := h.isF.rng
    have c1 : a * ((b + c) % p) % p = (a * b % p + a * c % p) % p :=
      (((Cg.refl p a).mul (Cg.mod p (b + c))).trans ((Cg.of_eq (Int.mul_add a b c)).trans ((Cg.mod p (a * b)).add (Cg.mod p (a * c))).symm)).emod_eq
    have c2 : (((a - b) % p + b) % p == a % p) = true := beq_iff_eq.mpr ((((Cg.mod p (a - b)).add (Cg.refl p b)).trans (Cg.of_eq (by omega))).emod_eq)
    simp (disch := omega) only [↓bnd (big_ok (s := l) (by omega)), ↓bnd (isField_ok h), ↓bnd2 (iAdd_ok h), ↓bnd2 (iMul_ok h), ↓bnd2 (iSub_ok h), ↓bnd2 (Add_ok h), ↓bnd2 (Mul_ok h), ↓bnd1 (Reduce_ok h), c1, c2, ↓bnd (h1 (KK + 1) (by omega)), ↓bnd (h1 KK (by omega)), ↓bnd (h2 (KK + 1) (by omega)), ↓bnd (h2 KK (by omega)), ↓bnd (h3 (KK + 1) (by omega)), ↓bnd (h3 KK (by omega)), ↓Option.bind_some, ↓reduceIte, ↓if_pos, ↓if_neg, if_pos, if_neg, w64, Bool.not_true, Bool.not_false, Bool.false_eq_true]
  · simp (disch := omega) only [↓bnd (big_ok (s := l) (by omega)), ↓bnd (isField_no h), ↓bnd (h1 (KK + 1) (by omega)), ↓bnd (h1 KK (by omega)), ↓bnd (h2 (KK + 1) (by omega)), ↓bnd (h2 KK (by omega)), ↓bnd (h3 (KK + 1) (by omega)), ↓bnd (h3 KK (by omega)), ↓Option.bind_some, ↓reduceIte, ↓if_pos, ↓if_neg, if_pos, if_neg, w64, Bool.not_true, Bool.not_false, Bool.false_eq_true]

end Go.Proofs.Ytginidfoikheaaa.Pure
