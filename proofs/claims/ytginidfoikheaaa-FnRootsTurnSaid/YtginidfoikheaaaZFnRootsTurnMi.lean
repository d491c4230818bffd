import Derived.Test.YtginidfoikheaaaG0
/- What Dot, BatchInverse, Permute, RootOf, Roots and RootSum compute, of the program and of the reference. -/
import Derived.Test.YtginidfoikheaaaZFnRootsTurnMa
import Derived.Test.YtginidfoikheaaaZFnRootsTurnMb
import Derived.Test.YtginidfoikheaaaZFnRootsTurnMc
import Derived.Test.YtginidfoikheaaaZFnRootsTurnMd
import Derived.Test.YtginidfoikheaaaZFnRootsTurnMe
import Derived.Test.YtginidfoikheaaaZFnRootsTurnMh
import Derived.Test.YtginidfoikheaaaWWords
import Derived.Test.YtginidfoikheaaaWMore
namespace Go.Proofs.Ytginidfoikheaaa.M
open Go.RowKit Go.Proofs.Ytginidfoikheaaa.P Go.Proofs.YtginidfoikheaaaW.PrintWords Go.Proofs.YtginidfoikheaaaW.PrintLast Go.Proofs.YtginidfoikheaaaW.PrintMore
set_option linter.unusedVariables false
set_option linter.unusedSimpArgs false

theorem mn_of_le {a b : Int} (h : a ≤ b) : mn a b = a := by unfold mn; rw [if_neg (by omega)]
theorem mn_of_lt {a b : Int} (h : b < a) : mn a b = b := by unfold mn; rw [if_pos h]
theorem mn_le (a b : Int) : mn a b ≤ a ∧ mn a b ≤ b := by unfold mn; split <;> omega
theorem mn_min (a b : Nat) : mn (a : Int) (b : Int) = ((min a b : Nat) : Int) := by unfold mn; split <;> omega

/-! ### Dot -/
/-- The sum of the first n products. -/
def ds (p : Int) (a b : List Int) : Nat → Int
  | 0 => 0
  | n + 1 => (ds p a b n + rd a (n : Int) * rd b (n : Int) % p) % p
theorem ds_rng {p : Int} (hp : 0 < p) (a b : List Int) (n : Nat) : 0 ≤ ds p a b n ∧ ds p a b n < p := by
  cases n with
  | zero => exact ⟨Int.le_refl _, hp⟩
  | succ n => exact emod_rng hp _
section
variable {f p g t : Int}

/-! ### BatchInverse -/
/-- The inverse, 0 for 0. -/
def iv (p x : Int) : Int := (x % p) ^ (p.toNat - 2) % p
theorem iv_rng {p : Int} (hp : 0 < p) (x : Int) : 0 ≤ iv p x ∧ iv p x < p := emod_rng hp _
theorem iv_zero (h : IsF p g t) {x : Int} (hx : Cg p x 0) : iv p x = 0 := by
  have r := h.rng
  obtain ⟨n, hn⟩ : ∃ n, p.toNat - 2 = n + 1 := ⟨p.toNat - 3, by omega⟩
  unfold iv
  rw [hn, hx.emod_of (by omega) (by omega), Int.pow_succ]
  simp
theorem iv_mul (h : IsF p g t) {x : Int} (hx : ¬ Cg p x 0) : Cg p (iv p x * x) 1 := by
  have r := h.rng
  have e : p.toNat - 1 = (p.toNat - 2) + 1 := by omega
  have h1 := h.flt hx
  rw [e, Int.pow_succ] at h1
  exact (((Cg.mod p _).trans ((Cg.mod p x).pow _)).mul (Cg.refl p x)).trans h1
end

end Go.Proofs.Ytginidfoikheaaa.M
