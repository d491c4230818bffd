import Derived.Test.YtohneiapknlpgaaG0
/- What the exported functions of the first chapter compute, of the program and of the reference, in one wording. -/
import Derived.Test.YtohneiapknlpgaaZFnSquaresMa
import Derived.Test.YtohneiapknlpgaaZFnSquaresMb
import Derived.Test.YtohneiapknlpgaaZFnSquaresMc
import Derived.Test.YtohneiapknlpgaaZFnSquares1
namespace Go.Proofs.Ytohneiapknlpgaa.M
open Go.RowKit Go.Proofs.Ytohneiapknlpgaa.P Go.Proofs.YtohneiapknlpgaaW.PrintWords Go.Proofs.YtohneiapknlpgaaW.PrintLast Go.Proofs.YtohneiapknlpgaaW.PrintMore
set_option linter.unusedVariables false
set_option linter.unusedSimpArgs false

theorem IsF.pow_cong {p g t : Int} (h : IsF p g t) {a : Int} (ha : ¬ Cg p a 0) {m n : Nat} (hmn : (m : Int) % (p - 1) = (n : Int) % (p - 1)) : Cg p (a ^ m) (a ^ n) := by
  have r := h.rng
  refine (h.pow_mod ha m).trans (Cg.trans (Cg.of_eq ?_) (h.pow_mod ha n).symm)
  congr 1
  have e : ((p.toNat - 1 : Nat) : Int) = p - 1 := by omega
  have : ((m % (p.toNat - 1) : Nat) : Int) = ((n % (p.toNat - 1) : Nat) : Int) := by rw [Int.natCast_emod, Int.natCast_emod, e, hmn]
  exact Int.ofNat_inj.mp this

section
variable {f p g t : Int}
theorem iMul_ok (h : FI f p g t) (a b : Int) : impl_Mul.f f a b = some (a * b % p) := by
  have r := h.isF.rng
  have q := emod_rng (p := p) (by omega) a
  have q' := emod_rng (p := p) (by omega) b
  unfold impl_Mul.f
  simp (disch := omega) only [fieldOf_ok h, reduce_ok h.isF, mul_ok h.isF q.1 q.2 q'.1 q'.2, w64, tmod_pos, tdiv_pos, ↓if_pos, ↓if_neg, if_pos, if_neg, if_true, if_false, Option.bind_some, Bool.false_eq_true, Bool.not_true, Bool.not_false, ↓reduceIte]
  congr 1
  exact ((Cg.mod p a).mul (Cg.mod p b)).emod_eq
theorem iMul_no (h : f < 0 ∨ 9 ≤ f) (a b : Int) : impl_Mul.f f a b = some (-1) := by
  unfold impl_Mul.f
  simp (disch := omega) only [fieldOf_no h, w64, tmod_pos, tdiv_pos, ↓if_pos, ↓if_neg, if_pos, if_neg, if_true, if_false, Option.bind_some, Bool.false_eq_true, Bool.not_true, Bool.not_false, ↓reduceIte]
end
/-- Two that come to the same answer. -/
theorem same_ends {α : Type} [DecidableEq α] {g f : Nat → Option α} {r : α} (h : Ev g r) (h' : Ev f r) : ∃ k, ((g k).bind fun a => (f k).bind fun b => if b = a then some true else some false) = some true := by
  obtain ⟨K, h⟩ := h
  obtain ⟨K', h'⟩ := h'
  refine ⟨K + K', ?_⟩
  simp only [h (K + K') (by omega), h' (K + K') (by omega), Option.bind_some, if_true]
theorem Ev.const {α : Type} {x : Option α} {r : α} (h : x = some r) : Ev (fun _ => x) r := ⟨0, fun _ _ => h⟩

end Go.Proofs.Ytohneiapknlpgaa.M
