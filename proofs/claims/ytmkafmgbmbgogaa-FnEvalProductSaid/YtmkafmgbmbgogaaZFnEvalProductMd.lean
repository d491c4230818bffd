import Derived.Test.YtmkafmgbmbgogaaZFnEvalProductG
/- What the exported functions of the first chapter compute, of the program and of the reference, in one wording. -/
import Derived.Test.YtmkafmgbmbgogaaZFnEvalProductMa
import Derived.Test.YtmkafmgbmbgogaaZFnEvalProductMb
import Derived.Test.YtmkafmgbmbgogaaZFnEvalProductMc
namespace Go.Proofs.Ytmkafmgbmbgogaa.M
open Go.RowKit Go.Proofs.Ytmkafmgbmbgogaa.P Go.Proofs.YtmkafmgbmbgogaaW.PrintWords Go.Proofs.YtmkafmgbmbgogaaW.PrintLast Go.Proofs.YtmkafmgbmbgogaaW.PrintMore
set_option linter.unusedVariables false
set_option linter.unusedSimpArgs false

theorem IsF.pow_cong {p g t : Int} (h : IsF p g t) {a : Int} (ha : ¬ Cg p a 0) {m n : Nat} (hmn : (m : Int) % (p - 1) = (n : Int) % (p - 1)) : Cg p (a ^ m) (a ^ n) := by
  have r := h.rng
  refine (h.pow_mod ha m).trans (Cg.trans (Cg.of_eq ?_) (h.pow_mod ha n).symm)
  congr 1
  have e : ((p.toNat - 1 : Nat) : Int) = p - 1 := by omega
  have : ((m % (p.toNat - 1) : Nat) : Int) = ((n % (p.toNat - 1) : Nat) : Int) := by rw [Int.natCast_emod, Int.natCast_emod, e, hmn]
  exact Int.ofNat_inj.mp this

section
variable {f p g t : Int}
end
theorem Ev.const {α : Type} {x : Option α} {r : α} (h : x = some r) : Ev (fun _ => x) r := ⟨0, fun _ _ => h⟩

end Go.Proofs.Ytmkafmgbmbgogaa.M
