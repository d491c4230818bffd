import Derived.Test.YtjfmclpfdijkiaaG0
/- What the functions on elements of the nine fields compute: reduction, sum, difference, product, power, inverse, of the program and of the reference. -/
import Derived.KernelRfl
import Derived.Test.YtjfmclpfdijkiaaZFnExactComposeMa
import Derived.Test.YtjfmclpfdijkiaaZFnExactComposeMb
import Derived.Test.YtjfmclpfdijkiaaZFnExactCompose1
import Derived.Test.YtjfmclpfdijkiaaZFnExactCompose4
import Derived.Test.YtjfmclpfdijkiaaZFnExactCompose0
namespace Go.Proofs.Ytjfmclpfdijkiaa.M
open Go.RowKit Go.Proofs.Ytjfmclpfdijkiaa.P Go.Proofs.YtjfmclpfdijkiaaW.PrintWords Go.Proofs.YtjfmclpfdijkiaaW.PrintLast Go.Proofs.YtjfmclpfdijkiaaW.PrintMore
set_option linter.unusedVariables false
set_option linter.unusedSimpArgs false

/-- The field with number f. -/
def FI (f p g t : Int) : Prop :=
  (f = 0 ∧ p = 17 ∧ g = 3 ∧ t = 4) ∨ (f = 1 ∧ p = 97 ∧ g = 5 ∧ t = 5) ∨ (f = 2 ∧ p = 193 ∧ g = 5 ∧ t = 6) ∨ (f = 3 ∧ p = 257 ∧ g = 3 ∧ t = 8) ∨ (f = 4 ∧ p = 7681 ∧ g = 17 ∧ t = 9) ∨ (f = 5 ∧ p = 12289 ∧ g = 11 ∧ t = 12) ∨
  (f = 6 ∧ p = 998244353 ∧ g = 3 ∧ t = 23) ∨ (f = 7 ∧ p = 469762049 ∧ g = 3 ∧ t = 26) ∨ (f = 8 ∧ p = 1004535809 ∧ g = 3 ∧ t = 21)
theorem FI.isF {f p g t : Int} (h : FI f p g t) : IsF p g t := by
  unfold IsF
  rcases h with ⟨rfl, rfl, rfl, rfl⟩ | ⟨rfl, rfl, rfl, rfl⟩ | ⟨rfl, rfl, rfl, rfl⟩ | ⟨rfl, rfl, rfl, rfl⟩ | ⟨rfl, rfl, rfl, rfl⟩ | ⟨rfl, rfl, rfl, rfl⟩ | ⟨rfl, rfl, rfl, rfl⟩ | ⟨rfl, rfl, rfl, rfl⟩ | ⟨rfl, rfl, rfl, rfl⟩ <;> decide
theorem FI.f_rng {f p g t : Int} (h : FI f p g t) : 0 ≤ f ∧ f < 9 := by
  rcases h with ⟨rfl, _⟩ | ⟨rfl, _⟩ | ⟨rfl, _⟩ | ⟨rfl, _⟩ | ⟨rfl, _⟩ | ⟨rfl, _⟩ | ⟨rfl, _⟩ | ⟨rfl, _⟩ | ⟨rfl, _⟩ <;> decide
theorem FI.cases (f : Int) : (∃ p g t, FI f p g t) ∨ (f < 0 ∨ 9 ≤ f) := by
  by_cases h : f < 0 ∨ 9 ≤ f
  · exact .inr h
  left
  have : f = 0 ∨ f = 1 ∨ f = 2 ∨ f = 3 ∨ f = 4 ∨ f = 5 ∨ f = 6 ∨ f = 7 ∨ f = 8 := by omega
  rcases this with rfl | rfl | rfl | rfl | rfl | rfl | rfl | rfl | rfl
  · exact ⟨17, 3, 4, by unfold FI; decide⟩
  · exact ⟨97, 5, 5, by unfold FI; decide⟩
  · exact ⟨193, 5, 6, by unfold FI; decide⟩
  · exact ⟨257, 3, 8, by unfold FI; decide⟩
  · exact ⟨7681, 17, 9, by unfold FI; decide⟩
  · exact ⟨12289, 11, 12, by unfold FI; decide⟩
  · exact ⟨998244353, 3, 23, by unfold FI; decide⟩
  · exact ⟨469762049, 3, 26, by unfold FI; decide⟩
  · exact ⟨1004535809, 3, 21, by unfold FI; decide⟩
theorem fieldOf_ok {f p g t : Int} (h : FI f p g t) : impl_fieldOf.f f = some (p, g, t, true) := by
  rcases h with ⟨rfl, rfl, rfl, rfl⟩ | ⟨rfl, rfl, rfl, rfl⟩ | ⟨rfl, rfl, rfl, rfl⟩ | ⟨rfl, rfl, rfl, rfl⟩ | ⟨rfl, rfl, rfl, rfl⟩ | ⟨rfl, rfl, rfl, rfl⟩ | ⟨rfl, rfl, rfl, rfl⟩ | ⟨rfl, rfl, rfl, rfl⟩ | ⟨rfl, rfl, rfl, rfl⟩ <;> rfl
theorem fieldOf_no {f : Int} (h : f < 0 ∨ 9 ≤ f) : impl_fieldOf.f f = some (0, 0, 0, false) := by
  unfold impl_fieldOf.f
  by_cases h0 : f < 0
  · rw [if_pos h0]
  · rw [if_neg h0, if_pos (by omega)]
theorem Modulus_ok {f p g t : Int} (h : FI f p g t) : spec_Modulus.f f = some p := by
  rcases h with ⟨rfl, rfl, rfl, rfl⟩ | ⟨rfl, rfl, rfl, rfl⟩ | ⟨rfl, rfl, rfl, rfl⟩ | ⟨rfl, rfl, rfl, rfl⟩ | ⟨rfl, rfl, rfl, rfl⟩ | ⟨rfl, rfl, rfl, rfl⟩ | ⟨rfl, rfl, rfl, rfl⟩ | ⟨rfl, rfl, rfl, rfl⟩ | ⟨rfl, rfl, rfl, rfl⟩ <;> rfl
theorem Modulus_no {f : Int} (h : f < 0 ∨ 9 ≤ f) : spec_Modulus.f f = some 0 := by
  unfold spec_Modulus.f
  simp (disch := omega) only [w64, tmod_pos, tdiv_pos, ↓if_pos, ↓if_neg, if_pos, if_neg, if_true, if_false, Option.bind_some, Bool.false_eq_true, Bool.not_true, Bool.not_false, ↓reduceIte]

section
variable {p g t : Int}
theorem add_ok (h : IsF p g t) {a b : Int} (ha : 0 ≤ a) (ha' : a < p) (hb : 0 ≤ b) (hb' : b < p) : impl_field_add.f p g t a b = some ((a + b) % p) := by
  have r := h.rng
  unfold impl_field_add.f
  simp (disch := omega) only [w64, tmod_pos, tdiv_pos, ↓if_pos, ↓if_neg, if_pos, if_neg, if_true, if_false, Option.bind_some, Bool.false_eq_true, Bool.not_true, Bool.not_false, ↓reduceIte]
end

/-! ### the reference's -/
section
variable {f p g t : Int}
theorem Reduce_ok (h : FI f p g t) (x : Int) : spec_Reduce.f f x = some (x % p) := by
  have r := h.isF.rng
  have h1 := tmod_lo (x := x) (p := p) (by omega)
  have h2 := tmod_hi (x := x) (p := p) (by omega)
  have q := emod_rng (p := p) (by omega) x
  unfold spec_Reduce.f
  simp (disch := omega) only [Modulus_ok h, w64, tmod_pos, tdiv_pos, ↓if_pos, ↓if_neg, if_pos, if_neg, if_true, if_false, Option.bind_some, Bool.false_eq_true, Bool.not_true, Bool.not_false, ↓reduceIte]
  by_cases hx : Int.tmod x p < 0
  · simp (disch := omega) only [w64, tmod_pos, tdiv_pos, ↓if_pos, ↓if_neg, if_pos, if_neg, if_true, if_false, Option.bind_some, Bool.false_eq_true, Bool.not_true, Bool.not_false, ↓reduceIte]
    congr 1
    exact ((((tmod_cg x p).symm.add (Cg.refl p 0)).trans ((Cg.refl p _).add (Cg.self p).symm)).emod_eq.trans (Int.emod_eq_of_lt (by omega) (by omega))).symm ▸ (by rw [Int.add_zero])
  · simp (disch := omega) only [w64, tmod_pos, tdiv_pos, ↓if_pos, ↓if_neg, if_pos, if_neg, if_true, if_false, Option.bind_some, Bool.false_eq_true, Bool.not_true, Bool.not_false, ↓reduceIte]
    congr 1
    exact ((tmod_cg x p).symm.emod_of (by omega) h2).symm
theorem Reduce_no (h : f < 0 ∨ 9 ≤ f) (x : Int) : spec_Reduce.f f x = some (-1) := by
  unfold spec_Reduce.f
  simp (disch := omega) only [Modulus_no h, w64, tmod_pos, tdiv_pos, ↓if_pos, ↓if_neg, if_pos, if_neg, if_true, if_false, Option.bind_some, Bool.false_eq_true, Bool.not_true, Bool.not_false, ↓reduceIte]
theorem Add_ok (h : FI f p g t) (a b : Int) : spec_Add.f f a b = some ((a + b) % p) := by
  have r := h.isF.rng
  have q := emod_rng (p := p) (by omega) a
  have q' := emod_rng (p := p) (by omega) b
  unfold spec_Add.f
  simp (disch := omega) only [Modulus_ok h, Reduce_ok h, w64, tmod_pos, tdiv_pos, ↓if_pos, ↓if_neg, if_pos, if_neg, if_true, if_false, Option.bind_some, Bool.false_eq_true, Bool.not_true, Bool.not_false, ↓reduceIte]
  congr 1
  exact ((Cg.mod p a).add (Cg.mod p b)).emod_eq
theorem Add_no (h : f < 0 ∨ 9 ≤ f) (a b : Int) : spec_Add.f f a b = some (-1) := by
  unfold spec_Add.f
  simp (disch := omega) only [Modulus_no h, w64, tmod_pos, tdiv_pos, ↓if_pos, ↓if_neg, if_pos, if_neg, if_true, if_false, Option.bind_some, Bool.false_eq_true, Bool.not_true, Bool.not_false, ↓reduceIte]
end

end Go.Proofs.Ytjfmclpfdijkiaa.M
