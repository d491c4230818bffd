import Derived.Test.YtjfmclpfdijkiaaG0
/- What the exported functions of the first chapter compute, of the program and of the reference, in one wording. -/
import Derived.Test.YtjfmclpfdijkiaaZFnExactDivModMa
import Derived.Test.YtjfmclpfdijkiaaZFnExactDivModMb
import Derived.Test.YtjfmclpfdijkiaaZFnExactDivModMc
import Derived.Test.YtjfmclpfdijkiaaZFnExactDivMod3
namespace Go.Proofs.Ytjfmclpfdijkiaa.M
open Go.RowKit Go.Proofs.Ytjfmclpfdijkiaa.P Go.Proofs.YtjfmclpfdijkiaaW.PrintWords Go.Proofs.YtjfmclpfdijkiaaW.PrintLast Go.Proofs.YtjfmclpfdijkiaaW.PrintMore
set_option linter.unusedVariables false
set_option linter.unusedSimpArgs false

theorem IsF.pow_cong {p g t : Int} (h : IsF p g t) {a : Int} (ha : ¬ Cg p a 0) {m n : Nat} (hmn : (m : Int) % (p - 1) = (n : Int) % (p - 1)) : Cg p (a ^ m) (a ^ n) := by
  have r := h.rng
  refine (h.pow_mod ha m).trans (Cg.trans (Cg.of_eq ?_) (h.pow_mod ha n).symm)
  congr 1
  have e : ((p.toNat - 1 : Nat) : Int) = p - 1 := by omega
  have : ((m % (p.toNat - 1) : Nat) : Int) = ((n % (p.toNat - 1) : Nat) : Int) := by rw [Int.natCast_emod, Int.natCast_emod, e, hmn]
  exact Int.ofNat_inj.mp this

section
variable {f p g t : Int}
theorem Inverse_ok (h : FI f p g t) {a : Int} (ha : ¬ Cg p a 0) : Ev (fun k => spec_Inverse.f k f a) ((a % p) ^ (p.toNat - 2) % p) := by
  have r := h.isF.rng
  obtain ⟨K, hK⟩ := Power_ok h ha (e := -1) (by omega) (by omega)
  refine ⟨K, fun k hk => ?_⟩
  unfold spec_Inverse.f
  simp (disch := omega) only [hK, w64, tmod_pos, tdiv_pos, ↓if_pos, ↓if_neg, if_pos, if_neg, if_true, if_false, Option.bind_some, Bool.false_eq_true, Bool.not_true, Bool.not_false, ↓reduceIte]
  rw [show ((-1 : Int) % (p - 1)).toNat = p.toNat - 2 by
    rw [(show Cg (p - 1) (-1) (p - 2) from ⟨-1, by omega⟩).emod_of (by omega) (by omega)]
    omega]
theorem Inverse_zero (h : FI f p g t) {a : Int} (ha : Cg p a 0) : Ev (fun k => spec_Inverse.f k f a) (-1) := by
  obtain ⟨K, hK⟩ := Power_zero h ha (-1)
  refine ⟨K, fun k hk => ?_⟩
  unfold spec_Inverse.f
  simp (disch := omega) only [hK, w64, tmod_pos, tdiv_pos, ↓if_pos, ↓if_neg, if_pos, if_neg, if_true, if_false, Option.bind_some, Bool.false_eq_true, Bool.not_true, Bool.not_false, ↓reduceIte]
theorem Inverse_no (h : f < 0 ∨ 9 ≤ f) (a : Int) : Ev (fun k => spec_Inverse.f k f a) (-1) := by
  obtain ⟨K, hK⟩ := Power_no h a (-1)
  refine ⟨K, fun k hk => ?_⟩
  unfold spec_Inverse.f
  simp (disch := omega) only [hK, w64, tmod_pos, tdiv_pos, ↓if_pos, ↓if_neg, if_pos, if_neg, if_true, if_false, Option.bind_some, Bool.false_eq_true, Bool.not_true, Bool.not_false, ↓reduceIte]
end
/-- Two that come to the same answer. -/
theorem same_ends {α : Type} [DecidableEq α] {g f : Nat → Option α} {r : α} (h : Ev g r) (h' : Ev f r) : ∃ k, ((g k).bind fun a => (f k).bind fun b => if b = a then some true else some false) = some true := by
  obtain ⟨K, h⟩ := h
  obtain ⟨K', h'⟩ := h'
  refine ⟨K + K', ?_⟩
  simp only [h (K + K') (by omega), h' (K + K') (by omega), Option.bind_some, if_true]
theorem Ev.const {α : Type} {x : Option α} {r : α} (h : x = some r) : Ev (fun _ => x) r := ⟨0, fun _ _ => h⟩

end Go.Proofs.Ytjfmclpfdijkiaa.M
