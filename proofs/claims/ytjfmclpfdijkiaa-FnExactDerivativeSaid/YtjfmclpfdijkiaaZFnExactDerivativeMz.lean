import Derived.Test.YtjfmclpfdijkiaaG0
/- What PolyOk, Degree, EvalPoly and ShiftPoly come to, of the program and of the reference. -/
import Derived.Test.YtjfmclpfdijkiaaZFnExactDerivativeMa
import Derived.Test.YtjfmclpfdijkiaaZFnExactDerivativeMb
import Derived.Test.YtjfmclpfdijkiaaZFnExactDerivativeMc
import Derived.Test.YtjfmclpfdijkiaaZFnExactDerivativeMd
import Derived.Test.YtjfmclpfdijkiaaZFnExactDerivativeMh
import Derived.Test.YtjfmclpfdijkiaaZFnExactDerivativeMr
import Derived.Test.YtjfmclpfdijkiaaZFnExactDerivativeMx
import Derived.Test.YtjfmclpfdijkiaaZFnExactDerivativeMy
import Derived.Test.YtjfmclpfdijkiaaWWords
import Derived.Test.YtjfmclpfdijkiaaWMore
namespace Go.Proofs.Ytjfmclpfdijkiaa.M
open Go.RowKit Go.Proofs.Ytjfmclpfdijkiaa.P Go.Proofs.YtjfmclpfdijkiaaW.PrintWords Go.Proofs.YtjfmclpfdijkiaaW.PrintLast Go.Proofs.YtjfmclpfdijkiaaW.PrintMore
set_option linter.unusedVariables false
set_option linter.unusedSimpArgs false

theorem tr_len (p : Int) {l : List Int} (h : l.length ≤ 1048576) : (tr p l).length ≤ 1048576 := by
  have := cut_len (mk l.length fun i => rd l (i : Int) % p)
  rw [mk_length] at this
  unfold tr; omega
theorem dv_len (p : Int) (l : List Int) : (dv p l).length ≤ l.length := by
  have := cut_len (mk (l.length - 1) fun i => ((i + 1 : Nat) : Int) * rd l ((i + 1 : Nat) : Int) % p)
  rw [mk_length] at this
  unfold dv; omega
section
variable {f p g t : Int}

/-! ### EvalPoly -/
/-- The sum of the first n terms. -/
def sm (l : List Int) (x : Int) : Nat → Int
  | 0 => 0
  | n + 1 => sm l x n + rd l (n : Int) * x ^ n
/-- Horner's way: the value of what stands from i on, n terms. -/
def hor (p : Int) (l : List Int) (x : Int) (i : Nat) : Nat → Int
  | 0 => 0
  | n + 1 => (hor p l x (i + 1) n * x + rd l (i : Int)) % p
theorem hor_rng {p : Int} (hp : 0 < p) (l : List Int) (x : Int) (i n : Nat) : 0 ≤ hor p l x i n ∧ hor p l x i n < p := by
  cases n with
  | zero => exact ⟨Int.le_refl _, hp⟩
  | succ n => exact emod_rng hp _
theorem sm_hor (p : Int) (l : List Int) (x : Int) (n : Nat) : ∀ i, Cg p (sm l x i + hor p l x i n * x ^ i) (sm l x (i + n)) := by
  induction n with
  | zero => intro i; simp only [hor, Int.zero_mul, Int.add_zero, Nat.add_zero]; exact Cg.refl p _
  | succ n ih =>
    intro i
    have h := ih (i + 1)
    rw [show i + 1 + n = i + (n + 1) by omega] at h
    refine Cg.trans ?_ h
    show Cg p (sm l x i + (hor p l x (i + 1) n * x + rd l (i : Int)) % p * x ^ i) _
    have e : sm l x (i + 1) + hor p l x (i + 1) n * x ^ (i + 1) = sm l x i + (hor p l x (i + 1) n * x + rd l (i : Int)) * x ^ i := by
      rw [show sm l x (i + 1) = sm l x i + rd l (i : Int) * x ^ i from rfl, Int.pow_succ]
      clear h ih
      generalize hor p l x (i + 1) n = u
      generalize x ^ i = v
      grind
    rw [e]
    exact (Cg.refl p _).add ((Cg.mod p _).mul (Cg.refl p _))
theorem sm_cg {p : Int} (l : List Int) {x y : Int} (h : Cg p x y) (n : Nat) : Cg p (sm l x n) (sm l y n) := by
  induction n with
  | zero => exact Cg.refl p _
  | succ n ih => exact ih.add ((Cg.refl p _).mul (h.pow n))
/-- The polynomial's value. -/
def vl (p : Int) (l : List Int) (x : Int) : Int := sm l x l.length % p
theorem vl_mod (p : Int) (l : List Int) (x : Int) : vl p l (x % p) = vl p l x := (sm_cg l (Cg.mod p x) _).emod_eq
theorem vl_rng {p : Int} (hp : 0 < p) (l : List Int) (x : Int) : 0 ≤ vl p l x ∧ vl p l x < p := emod_rng hp _

/-! ### ShiftPoly -/
def sh (l : List Int) (s : Int) : List Int × Bool :=
  if l.length = 0 then ([], true) else if s < 0 then (l.drop (-s).toNat, true) else if 400 - (l.length : Int) < s then ([], false) else (List.replicate s.toNat 0 ++ l, true)
theorem sh_len {p : Int} {l : List Int} (hl : pk p l = true) (s : Int) : (sh l s).1.length ≤ 1048576 := by
  have := pk_len hl
  unfold sh
  split
  · simp
  split
  · simp only [List.length_drop]; omega
  split
  · simp
  · simp only [List.length_append, List.length_replicate]; omega
end

end Go.Proofs.Ytjfmclpfdijkiaa.M
