import Derived.Test.YtmkafmgbmbgogaaZFnGcdG
/- What the exported functions of the first chapter compute, of the program and of the reference, in one wording. -/
import Derived.Test.YtmkafmgbmbgogaaZFnGcdMa
import Derived.Test.YtmkafmgbmbgogaaZFnGcdMb
import Derived.Test.YtmkafmgbmbgogaaZFnGcdMc
import Derived.Test.YtmkafmgbmbgogaaZFnGcd3
namespace Go.Proofs.Ytmkafmgbmbgogaa.M
open Go.RowKit Go.Proofs.Ytmkafmgbmbgogaa.P Go.Proofs.YtmkafmgbmbgogaaW.PrintWords Go.Proofs.YtmkafmgbmbgogaaW.PrintLast Go.Proofs.YtmkafmgbmbgogaaW.PrintMore
set_option linter.unusedVariables false
set_option linter.unusedSimpArgs false


section
variable {f p g t : Int}
theorem Inverse_ok (h : FI f p g t) {a : Int} (ha : ¬ Cg p a 0) : Ev (fun k => spec_Inverse.f k f a) ((a % p) ^ (p.toNat - 2) % p) := by
  have r := h.isF.rng
  obtain ⟨K, hK⟩ := Power_ok h ha (e := -1) (by omega) (by omega)
  refine ⟨K, fun k hk => ?_⟩
  unfold spec_Inverse.f
  simp (disch := omega) only [hK, w64, tmod_pos, tdiv_pos, ↓if_pos, ↓if_neg, if_pos, if_neg, if_true, if_false, Option.bind_some, Bool.false_eq_true, Bool.not_true, Bool.not_false, ↓reduceIte]
  rw [show ((-1 : Int) % (p - 1)).toNat = p.toNat - 2 by
    rw [(show Cg (p - 1) (-1) (p - 2) from ⟨-1, by omega⟩).emod_of (by omega) (by omega)]
    omega]
end
theorem Ev.const {α : Type} {x : Option α} {r : α} (h : x = some r) : Ev (fun _ => x) r := ⟨0, fun _ _ => h⟩

end Go.Proofs.Ytmkafmgbmbgogaa.M
