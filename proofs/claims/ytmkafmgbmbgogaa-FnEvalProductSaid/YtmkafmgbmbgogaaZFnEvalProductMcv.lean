import Derived.Test.YtmkafmgbmbgogaaZFnEvalProductG
/- The value of a product and of a composition. -/
import Derived.Test.YtmkafmgbmbgogaaZFnEvalProductMa
import Derived.Test.YtmkafmgbmbgogaaZFnEvalProductMb
import Derived.Test.YtmkafmgbmbgogaaZFnEvalProductMc
import Derived.Test.YtmkafmgbmbgogaaZFnEvalProductMd
import Derived.Test.YtmkafmgbmbgogaaZFnEvalProductMh
import Derived.Test.YtmkafmgbmbgogaaZFnEvalProductMr
import Derived.Test.YtmkafmgbmbgogaaZFnEvalProductMx
import Derived.Test.YtmkafmgbmbgogaaZFnEvalProductMy
import Derived.Test.YtmkafmgbmbgogaaZFnEvalProductMz
import Derived.Test.YtmkafmgbmbgogaaZFnEvalProductMm
import Derived.Test.YtmkafmgbmbgogaaZFnEvalProductMw
import Derived.Test.YtmkafmgbmbgogaaZFnEvalProductMwb
import Derived.Test.YtmkafmgbmbgogaaZFnEvalProductMcp
import Derived.Test.YtmkafmgbmbgogaaZFnEvalProductMev
import Derived.Test.YtmkafmgbmbgogaaZFnEvalProductMew
import Derived.Test.YtmkafmgbmbgogaaZFnEvalProductWWords
import Derived.Test.YtmkafmgbmbgogaaZFnEvalProductWMore
namespace Go.Proofs.Ytmkafmgbmbgogaa.M
open Go.RowKit Go.Proofs.Ytmkafmgbmbgogaa.P Go.Proofs.YtmkafmgbmbgogaaW.PrintWords Go.Proofs.YtmkafmgbmbgogaaW.PrintLast Go.Proofs.YtmkafmgbmbgogaaW.PrintMore
set_option linter.unusedVariables false
set_option linter.unusedSimpArgs false

theorem vl_ml {p : Int} (hp : 0 < p) (a b : List Int) (x : Int) : vl p (ml p a b) x = vl p a x * vl p b x % p :=
  ((vl_cg p _ x).trans (((ml_pc hp a b).at x).trans (((vl_cg p a x).symm.mul (vl_cg p b x).symm).trans (Cg.mod p _).symm))).eq (vl_rng hp _ _).1 (vl_rng hp _ _).2 (emod_rng hp _).1 (emod_rng hp _).2
theorem cm_val {p : Int} (hp : 0 < p) (a b : List Int) (x : Int) (n : Nat) : n ≤ a.length → Cg p (ev (cm p a b n) x) (ev (a.drop (a.length - n)) (ev b x)) := by
  induction n with
  | zero =>
    intro _
    rw [Nat.sub_zero, List.drop_length]
    exact Cg.refl p _
  | succ n ih =>
    intro hn
    rw [cm]
    have h1 := (ad_pc p (ml p (cm p a b n) b) (cut [rd a ((a.length - 1 - n : Nat) : Int)])).at x
    have h2 := (ml_pc hp (cm p a b n) b).at x
    have h3 := (cut_pc p [rd a ((a.length - 1 - n : Nat) : Int)]).at x
    have e : ev [rd a ((a.length - 1 - n : Nat) : Int)] x = rd a ((a.length - 1 - n : Nat) : Int) := by simp [ev]
    rw [e] at h3
    have hi : a.length - (n + 1) < a.length := by omega
    rw [List.drop_eq_getElem_cons hi, ← rd_at hi, show a.length - (n + 1) + 1 = a.length - n by omega, ev]
    rw [show a.length - 1 - n = a.length - (n + 1) by omega] at h1 h3 ⊢
    refine (h1.trans ((h2.trans ((ih (by omega)).mul (Cg.refl p _))).add h3)).trans (Cg.of_eq ?_)
    rw [Int.mul_comm, Int.add_comm]
theorem vl_cm {p : Int} (hp : 0 < p) (a b : List Int) (x : Int) : vl p (cm p a b a.length) x = vl p a (vl p b x) := by
  have h := cm_val hp a b x a.length (Nat.le_refl _)
  rw [Nat.sub_self, List.drop_zero] at h
  have h2 : Cg p (ev a (vl p b x)) (ev a (ev b x)) := by
    have := sm_cg a (vl_cg p b x) a.length
    rw [ev_sm _ _ _ (Nat.le_refl _), ev_sm _ _ _ (Nat.le_refl _)] at this
    exact this
  exact (((vl_cg p _ x).trans h).trans (h2.symm.trans (vl_cg p a _).symm)).eq (vl_rng hp _ _).1 (vl_rng hp _ _).2 (vl_rng hp _ _).1 (vl_rng hp _ _).2

end Go.Proofs.Ytmkafmgbmbgogaa.M
