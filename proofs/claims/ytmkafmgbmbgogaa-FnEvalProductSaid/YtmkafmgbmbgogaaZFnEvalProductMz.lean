import Derived.Test.YtmkafmgbmbgogaaZFnEvalProductG
/- What PolyOk, Degree, EvalPoly and ShiftPoly come to, of the program and of the reference. -/
import Derived.Test.YtmkafmgbmbgogaaZFnEvalProductMa
import Derived.Test.YtmkafmgbmbgogaaZFnEvalProductMb
import Derived.Test.YtmkafmgbmbgogaaZFnEvalProductMc
import Derived.Test.YtmkafmgbmbgogaaZFnEvalProductMd
import Derived.Test.YtmkafmgbmbgogaaZFnEvalProductMh
import Derived.Test.YtmkafmgbmbgogaaZFnEvalProductMr
import Derived.Test.YtmkafmgbmbgogaaZFnEvalProductMx
import Derived.Test.YtmkafmgbmbgogaaZFnEvalProductMy
import Derived.Test.YtmkafmgbmbgogaaZFnEvalProductWWords
import Derived.Test.YtmkafmgbmbgogaaZFnEvalProductWMore
import Derived.Test.YtmkafmgbmbgogaaZFnEvalProduct1
import Derived.Test.YtmkafmgbmbgogaaZFnEvalProduct0
import Derived.Test.YtmkafmgbmbgogaaZFnEvalProduct2
namespace Go.Proofs.Ytmkafmgbmbgogaa.M
open Go.RowKit Go.Proofs.Ytmkafmgbmbgogaa.P Go.Proofs.YtmkafmgbmbgogaaW.PrintWords Go.Proofs.YtmkafmgbmbgogaaW.PrintLast Go.Proofs.YtmkafmgbmbgogaaW.PrintMore
set_option linter.unusedVariables false
set_option linter.unusedSimpArgs false

section
variable {f p g t : Int}

/-! ### EvalPoly -/
/-- The sum of the first n terms. -/
def sm (l : List Int) (x : Int) : Nat → Int
  | 0 => 0
  | n + 1 => sm l x n + rd l (n : Int) * x ^ n
/-- Horner's way: the value of what stands from i on, n terms. -/
def hor (p : Int) (l : List Int) (x : Int) (i : Nat) : Nat → Int
  | 0 => 0
  | n + 1 => (hor p l x (i + 1) n * x + rd l (i : Int)) % p
theorem hor_rng {p : Int} (hp : 0 < p) (l : List Int) (x : Int) (i n : Nat) : 0 ≤ hor p l x i n ∧ hor p l x i n < p := by
  cases n with
  | zero => exact ⟨Int.le_refl _, hp⟩
  | succ n => exact emod_rng hp _
theorem sm_hor (p : Int) (l : List Int) (x : Int) (n : Nat) : ∀ i, Cg p (sm l x i + hor p l x i n * x ^ i) (sm l x (i + n)) := by
  induction n with
  | zero => intro i; simp only [hor, Int.zero_mul, Int.add_zero, Nat.add_zero]; exact Cg.refl p _
  | succ n ih =>
    intro i
    have h := ih (i + 1)
    rw [show i + 1 + n = i + (n + 1) by omega] at h
    refine Cg.trans ?_ h
    show Cg p (sm l x i + (hor p l x (i + 1) n * x + rd l (i : Int)) % p * x ^ i) _
    have e : sm l x (i + 1) + hor p l x (i + 1) n * x ^ (i + 1) = sm l x i + (hor p l x (i + 1) n * x + rd l (i : Int)) * x ^ i := by
      rw [show sm l x (i + 1) = sm l x i + rd l (i : Int) * x ^ i from rfl, Int.pow_succ]
      clear h ih
      generalize hor p l x (i + 1) n = u
      generalize x ^ i = v
      grind
    rw [e]
    exact (Cg.refl p _).add ((Cg.mod p _).mul (Cg.refl p _))
theorem sm_cg {p : Int} (l : List Int) {x y : Int} (h : Cg p x y) (n : Nat) : Cg p (sm l x n) (sm l y n) := by
  induction n with
  | zero => exact Cg.refl p _
  | succ n ih => exact ih.add ((Cg.refl p _).mul (h.pow n))
/-- The polynomial's value. -/
def vl (p : Int) (l : List Int) (x : Int) : Int := sm l x l.length % p
theorem eval_l0 (h : IsF p g t) (l : List Int) (hl : l.length ≤ 1048576) (he : els p l = true) {x : Int} (hx : 0 ≤ x) (hx' : x < p) (d : Nat) : ∀ (k n : Nat), d < k → n + d = l.length →
    impl_field_eval.l0 k l x (hor p l x d n) ((d : Int) - 1) p g t = some (hor p l x 0 l.length) := by
  have r := h.rng
  induction d with
  | zero =>
    intro k n hk hn
    obtain ⟨k, rfl⟩ : ∃ m, k = m + 1 := ⟨k - 1, by omega⟩
    obtain rfl : n = l.length := by omega
    simp (disch := omega) only [impl_field_eval.l0, w64, tmod_pos, tdiv_pos, ↓if_pos, ↓if_neg, if_pos, if_neg, if_true, if_false, Option.bind_some, Bool.false_eq_true, Bool.not_true, Bool.not_false, ↓reduceIte]
  | succ d ih =>
    intro k n hk hn
    obtain ⟨k, rfl⟩ : ∃ m, k = m + 1 := ⟨k - 1, by omega⟩
    have q := els_rd he (i := (d : Int)) (by omega) (by omega)
    have q1 := hor_rng (p := p) (by omega) l x (d + 1) n
    have q2 := mul_rng (p := p) (by omega) q1.1 q1.2 hx hx'
    have e := ih k (n + 1) (by omega) (by omega)
    rw [show hor p l x d (n + 1) = (hor p l x (d + 1) n * x + rd l (d : Int)) % p from rfl] at e
    rw [show (((d + 1 : Nat) : Int) - 1) = (d : Int) by omega]
    simp (disch := omega) only [impl_field_eval.l0, w64, tmod_pos, tdiv_pos, ↓if_pos, ↓if_neg, if_pos, if_neg, if_true, if_false, Option.bind_some, Bool.false_eq_true, Bool.not_true, Bool.not_false, ↓reduceIte]
    exact e
theorem eval_ok (h : IsF p g t) {l : List Int} (hl : l.length ≤ 1048576) (he : els p l = true) {x : Int} (hx : 0 ≤ x) (hx' : x < p) : Ev (fun k => impl_field_eval.f k p g t l x) (vl p l x) := by
  have r := h.rng
  refine ⟨l.length + 1, fun k hk => ?_⟩
  unfold impl_field_eval.f
  have e := eval_l0 h l hl he hx hx' l.length k 0 (by omega) (by omega)
  have q1 := hor_rng (p := p) (by omega) l x 0 l.length
  have e2 := sm_hor p l x l.length 0
  simp only [sm, Int.pow_zero, Int.mul_one, Int.zero_add, Nat.zero_add] at e2
  rw [show hor p l x 0 l.length = vl p l x from (e2.symm.emod_of q1.1 q1.2).symm] at e
  simp (disch := omega) only [w64, tmod_pos, tdiv_pos, ↓if_pos, ↓if_neg, if_pos, if_neg, if_true, if_false, Option.bind_some, Bool.false_eq_true, Bool.not_true, Bool.not_false, ↓reduceIte]
  exact e
theorem vl_mod (p : Int) (l : List Int) (x : Int) : vl p l (x % p) = vl p l x := (sm_cg l (Cg.mod p x) _).emod_eq
theorem vl_rng {p : Int} (hp : 0 < p) (l : List Int) (x : Int) : 0 ≤ vl p l x ∧ vl p l x < p := emod_rng hp _
theorem iEval_ok (h : FI f p g t) {l : List Int} (hl : pk p l = true) (x : Int) : Ev (fun k => impl_EvalPoly.f k f l x) (vl p l x) := by
  have r := h.isF.rng
  have hlen := pk_len hl
  have q := emod_rng (p := p) (by omega) x
  obtain ⟨K1, h1⟩ := polyField1 h (a := l) (by omega)
  obtain ⟨K2, h2⟩ := eval_ok h.isF (l := l) (by omega) (pk_els hl) q.1 q.2
  rw [vl_mod] at h2
  rw [if_pos hl] at h1
  refine ⟨K1 + K2, fun k hk => ?_⟩
  unfold impl_EvalPoly.f
  simp (disch := omega) only [h1, reduce_ok h.isF, h2, w64, tmod_pos, tdiv_pos, ↓if_pos, ↓if_neg, if_pos, if_neg, if_true, if_false, Option.bind_some, Bool.false_eq_true, Bool.not_true, Bool.not_false, ↓reduceIte]
/-- Power for exponents that are not negative. -/
theorem Power_nat (h : FI f p g t) (a : Int) {n : Nat} (hn : n ≤ 9223372036854775807) : Ev (fun k => spec_Power.f k f a n) (a ^ n % p) := by
  have r := h.isF.rng
  by_cases ha : Cg p a 0
  · have e := Power_zero h ha (n : Int)
    by_cases h0 : n = 0
    · subst h0
      rw [show a ^ 0 % p = 1 from by rw [Int.pow_zero]; exact Int.emod_eq_of_lt (by omega) (by omega)]
      simpa using e
    · have e2 : a ^ n % p = 0 := by
        obtain ⟨m, rfl⟩ : ∃ m, n = m + 1 := ⟨n - 1, by omega⟩
        have := (ha.pow (m + 1)).emod_of (p := p) (by simp [Int.pow_succ]) (by simp [Int.pow_succ]; omega)
        rw [this]; simp [Int.pow_succ]
      rw [e2]
      have h3 : ¬ (n : Int) = 0 := by omega
      have h4 : ¬ (n : Int) < 0 := by omega
      simpa [h3, h4, h0] using e
  · have e := Power_ok h ha (e := (n : Int)) (by omega) (by omega)
    have hc : Cg p (a ^ n) ((a % p) ^ ((n : Int) % (p - 1)).toNat) := by
      have hp1 : 0 ≤ (n : Int) % (p - 1) := Int.emod_nonneg _ (by omega)
      refine (h.isF.pow_cong ha (m := n) (n := ((n : Int) % (p - 1)).toNat) ?_).trans ((Cg.mod p a).symm.pow _)
      rw [Int.toNat_of_nonneg hp1, Int.emod_emod]
    rw [hc.emod_eq]
    exact e
theorem sEval_l0 (h : FI f p g t) (l : List Int) (hl : l.length ≤ 1048576) (x : Int) (d : Nat) : ∃ K, ∀ (k i : Nat), K + d < k → l.length - i = d → i ≤ l.length →
    spec_EvalPoly.l0 k f l x (sm l x i % p) i = some (vl p l x) := by
  have r := h.isF.rng
  induction d with
  | zero =>
    refine ⟨0, fun k i hk hd hi => ?_⟩
    obtain ⟨k, rfl⟩ : ∃ m, k = m + 1 := ⟨k - 1, by omega⟩
    obtain rfl : i = l.length := by omega
    simp (disch := omega) only [spec_EvalPoly.l0, w64, tmod_pos, tdiv_pos, ↓if_pos, ↓if_neg, if_pos, if_neg, if_true, if_false, Option.bind_some, Bool.false_eq_true, Bool.not_true, Bool.not_false, ↓reduceIte]
    rfl
  | succ d ih =>
    obtain ⟨K, ih⟩ := ih
    obtain ⟨K', hK'⟩ := Power_nat h x (n := l.length - (d + 1)) (by omega)
    refine ⟨K + K', fun k i hk hd hi => ?_⟩
    obtain ⟨k, rfl⟩ : ∃ m, k = m + 1 := ⟨k - 1, by omega⟩
    obtain rfl : i = l.length - (d + 1) := by omega
    have e := ih k (l.length - (d + 1) + 1) (by omega) (by omega) (by omega)
    have e2 : sm l x (l.length - (d + 1) + 1) % p = (sm l x (l.length - (d + 1)) % p + rd l ((l.length - (d + 1) : Nat) : Int) * (x ^ (l.length - (d + 1)) % p) % p) % p := by
      show (sm l x (l.length - (d + 1)) + rd l ((l.length - (d + 1) : Nat) : Int) * x ^ (l.length - (d + 1))) % p = _
      exact ((Cg.mod p _).symm.add (((Cg.refl p _).mul (Cg.mod p _).symm).trans (Cg.mod p _).symm)).emod_eq
    rw [e2] at e
    simp (disch := omega) only [spec_EvalPoly.l0, hK', Mul_ok h, Add_ok h, w64, tmod_pos, tdiv_pos, ↓if_pos, ↓if_neg, if_pos, if_neg, if_true, if_false, Option.bind_some, Bool.false_eq_true, Bool.not_true, Bool.not_false, ↓reduceIte]
    exact e
theorem sEval_ok (h : FI f p g t) {l : List Int} (hl : pk p l = true) (x : Int) : Ev (fun k => spec_EvalPoly.f k f l x) (vl p l x) := by
  have r := h.isF.rng
  have hlen := pk_len hl
  obtain ⟨K1, h1⟩ := PolyOk_ok h (a := l) (by omega)
  obtain ⟨K2, h2⟩ := sEval_l0 h l (by omega) x l.length
  rw [hl] at h1
  refine ⟨K1 + K2 + l.length + 1, fun k hk => ?_⟩
  unfold spec_EvalPoly.f
  simp (disch := omega) only [h1, w64, tmod_pos, tdiv_pos, ↓if_pos, ↓if_neg, if_pos, if_neg, if_true, if_false, Option.bind_some, Bool.false_eq_true, Bool.not_true, Bool.not_false, ↓reduceIte]
  have e := h2 k 0 (by omega) (by omega) (by omega)
  rw [show sm l x 0 % p = 0 from Int.zero_emod p] at e
  exact e

/-! ### ShiftPoly -/
def sh (l : List Int) (s : Int) : List Int × Bool :=
  if l.length = 0 then ([], true) else if s < 0 then (l.drop (-s).toNat, true) else if 400 - (l.length : Int) < s then ([], false) else (List.replicate s.toNat 0 ++ l, true)
end

end Go.Proofs.Ytmkafmgbmbgogaa.M
