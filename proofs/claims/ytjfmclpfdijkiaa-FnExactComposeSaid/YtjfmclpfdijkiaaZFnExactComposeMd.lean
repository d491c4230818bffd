import Derived.Test.YtjfmclpfdijkiaaG0
/- What the exported functions of the first chapter compute, of the program and of the reference, in one wording. -/
import Derived.Test.YtjfmclpfdijkiaaZFnExactComposeMa
import Derived.Test.YtjfmclpfdijkiaaZFnExactComposeMb
import Derived.Test.YtjfmclpfdijkiaaZFnExactComposeMc
namespace Go.Proofs.Ytjfmclpfdijkiaa.M
open Go.RowKit Go.Proofs.Ytjfmclpfdijkiaa.P Go.Proofs.YtjfmclpfdijkiaaW.PrintWords Go.Proofs.YtjfmclpfdijkiaaW.PrintLast Go.Proofs.YtjfmclpfdijkiaaW.PrintMore
set_option linter.unusedVariables false
set_option linter.unusedSimpArgs false

theorem IsF.pow_cong {p g t : Int} (h : IsF p g t) {a : Int} (ha : ¬ Cg p a 0) {m n : Nat} (hmn : (m : Int) % (p - 1) = (n : Int) % (p - 1)) : Cg p (a ^ m) (a ^ n) := by
  have r := h.rng
  refine (h.pow_mod ha m).trans (Cg.trans (Cg.of_eq ?_) (h.pow_mod ha n).symm)
  congr 1
  have e : ((p.toNat - 1 : Nat) : Int) = p - 1 := by omega
  have : ((m % (p.toNat - 1) : Nat) : Int) = ((n % (p.toNat - 1) : Nat) : Int) := by rw [Int.natCast_emod, Int.natCast_emod, e, hmn]
  exact Int.ofNat_inj.mp this

section
variable {f p g t : Int}
end
/-- Two that come to the same answer. -/
theorem same_ends {α : Type} [DecidableEq α] {g f : Nat → Option α} {r : α} (h : Ev g r) (h' : Ev f r) : ∃ k, ((g k).bind fun a => (f k).bind fun b => if b = a then some true else some false) = some true := by
  obtain ⟨K, h⟩ := h
  obtain ⟨K', h'⟩ := h'
  refine ⟨K + K', ?_⟩
  simp only [h (K + K') (by omega), h' (K + K') (by omega), Option.bind_some, if_true]
theorem Ev.const {α : Type} {x : Option α} {r : α} (h : x = some r) : Ev (fun _ => x) r := ⟨0, fun _ _ => h⟩

end Go.Proofs.Ytjfmclpfdijkiaa.M
