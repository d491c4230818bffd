import Derived.Test.YtjfmclpfdijkiaaG0
/- What Trim, ShiftPoly, EvalPoly, ScalePoly, Derivative, AddPoly and SubPoly come to, of the program and of the reference. -/
import Derived.Test.YtjfmclpfdijkiaaZFnExactDerivativeMa
import Derived.Test.YtjfmclpfdijkiaaZFnExactDerivativeMb
import Derived.Test.YtjfmclpfdijkiaaZFnExactDerivativeMc
import Derived.Test.YtjfmclpfdijkiaaZFnExactDerivativeMd
import Derived.Test.YtjfmclpfdijkiaaZFnExactDerivativeMh
import Derived.Test.YtjfmclpfdijkiaaZFnExactDerivativeMr
import Derived.Test.YtjfmclpfdijkiaaZFnExactDerivativeMx
import Derived.Test.YtjfmclpfdijkiaaWWords
import Derived.Test.YtjfmclpfdijkiaaWMore
import Derived.Test.YtjfmclpfdijkiaaZFnExactDerivative3
import Derived.Test.YtjfmclpfdijkiaaZFnExactDerivative2
import Derived.Test.YtjfmclpfdijkiaaZFnExactDerivative0
import Derived.Test.YtjfmclpfdijkiaaZFnExactDerivative4
namespace Go.Proofs.Ytjfmclpfdijkiaa.M
open Go.RowKit Go.Proofs.Ytjfmclpfdijkiaa.P Go.Proofs.YtjfmclpfdijkiaaW.PrintWords Go.Proofs.YtjfmclpfdijkiaaW.PrintLast Go.Proofs.YtjfmclpfdijkiaaW.PrintMore
set_option linter.unusedVariables false
set_option linter.unusedSimpArgs false

section
variable {f p g t : Int}
/-! ### Trim -/
/-- The list's residues, without the last zeros. -/
def tr (p : Int) (l : List Int) : List Int := cut (mk l.length fun i => rd l (i : Int) % p)

/-! ### ScalePoly -/
def sc (p : Int) (l : List Int) (x : Int) : List Int := cut (mk l.length fun i => rd l (i : Int) * x % p)
theorem sc_len (p : Int) (l : List Int) (x : Int) : (sc p l x).length ≤ l.length := by
  have := cut_len (mk l.length fun i => rd l (i : Int) * x % p)
  rw [mk_length] at this; exact this
theorem sc_els {p : Int} (hp : 0 < p) (l : List Int) (x : Int) : els p (sc p l x) = true := cut_els (mk_els fun i hi => emod_rng hp _)
theorem sc_rd (p : Int) (l : List Int) (x : Int) (i : Nat) : rd (sc p l x) (i : Int) = rd l (i : Int) * x % p := by
  unfold sc
  rw [cut_rd, mk_rd]
  split
  · rfl
  · rw [rd_ge (by omega)]; simp
theorem sc_top (p : Int) (l : List Int) (x : Int) : top (sc p l x) := cut_top _
theorem sc_mod (p : Int) (l : List Int) (x : Int) : sc p l (x % p) = sc p l x := by
  unfold sc
  congr 1
  exact mk_congr fun i hi => by rw [Int.mul_emod, Int.emod_emod, ← Int.mul_emod]
/-- A field and a polynomial over it, or neither. -/
theorem poly_cases (f : Int) (l : List Int) : (∃ p g t, FI f p g t ∧ pk p l = true) ∨ ((f < 0 ∨ 9 ≤ f) ∨ ∃ p g t, FI f p g t ∧ pk p l = false) := by
  rcases FI.cases f with ⟨p, g, t, h⟩ | h
  · cases e : pk p l
    · exact .inr (.inr ⟨p, g, t, h, e⟩)
    · exact .inl ⟨p, g, t, h, e⟩
  · exact .inr (.inl h)

/-! ### Derivative -/
def dv (p : Int) (l : List Int) : List Int := cut (mk (l.length - 1) fun i => ((i + 1 : Nat) : Int) * rd l ((i + 1 : Nat) : Int) % p)
theorem deriv_l0 (h : IsF p g t) (l : List Int) (hl : l.length ≤ 1048576) (he : els p l = true) (d : Nat) : ∃ K, ∀ (k i : Nat), K + d < k → l.length - i = d → i ≤ l.length →
    impl_field_derivative.l0 k (mk (i - 1) fun i => ((i + 1 : Nat) : Int) * rd l ((i + 1 : Nat) : Int) % p) l l.length i p g t = some (dv p l) := by
  have r := h.rng
  obtain ⟨K, hK⟩ := trimmed_ok (l := mk (l.length - 1) fun i => ((i + 1 : Nat) : Int) * rd l ((i + 1 : Nat) : Int) % p) (by rw [mk_length]; omega)
  refine ⟨K, ?_⟩
  induction d with
  | zero =>
    intro k i hk hd hi
    obtain ⟨k, rfl⟩ : ∃ m, k = m + 1 := ⟨k - 1, by omega⟩
    obtain rfl : i = l.length := by omega
    simp (disch := omega) only [impl_field_derivative.l0, hK, w64, tmod_pos, tdiv_pos, ↓if_pos, ↓if_neg, if_pos, if_neg, if_true, if_false, Option.bind_some, Bool.false_eq_true, Bool.not_true, Bool.not_false, ↓reduceIte]
    rfl
  | succ d ih =>
    intro k i hk hd hi
    obtain ⟨k, rfl⟩ : ∃ m, k = m + 1 := ⟨k - 1, by omega⟩
    have e := ih k (i + 1) (by omega) (by omega) (by omega)
    have q := els_rd he (i := (i : Int)) (by omega) (by omega)
    have q' := emod_rng (p := p) (by omega) (i : Int)
    have hlen : (mk (i - 1) fun i => ((i + 1 : Nat) : Int) * rd l ((i + 1 : Nat) : Int) % p).length = i - 1 := mk_length _ _
    by_cases h0 : i = 0
    · subst h0
      simp (disch := omega) only [impl_field_derivative.l0, w64, tmod_pos, tdiv_pos, ↓if_pos, ↓if_neg, if_pos, if_neg, if_true, if_false, Option.bind_some, Bool.false_eq_true, Bool.not_true, Bool.not_false, ↓reduceIte]
      exact e
    · rw [show i + 1 - 1 = (i - 1) + 1 by omega, mk_succ, show i - 1 + 1 = i by omega] at e
      simp (disch := omega) only [impl_field_derivative.l0, mul_ok h q'.1 q'.2 q.1 q.2, w64, tmod_pos, tdiv_pos, ↓if_pos, ↓if_neg, if_pos, if_neg, if_true, if_false, Option.bind_some, Bool.false_eq_true, Bool.not_true, Bool.not_false, ↓reduceIte]
      rw [show (i : Int) % p * rd l (i : Int) % p = (i : Int) * rd l (i : Int) % p by rw [Int.mul_emod, Int.emod_emod, ← Int.mul_emod]]
      exact e
theorem deriv_ok (h : IsF p g t) {l : List Int} (hl : l.length ≤ 1048576) (he : els p l = true) : Ev (fun k => impl_field_derivative.f k p g t l) (dv p l) := by
  obtain ⟨K, hK⟩ := deriv_l0 h l hl he l.length
  refine ⟨K + l.length + 1, fun k hk => ?_⟩
  unfold impl_field_derivative.f
  exact hK k 0 (by omega) (by omega) (by omega)
theorem iDeriv_ok (h : FI f p g t) {l : List Int} (hl : pk p l = true) : Ev (fun k => impl_Derivative.f k f l) (dv p l) := by
  have hlen := pk_len hl
  obtain ⟨K1, h1⟩ := polyField1 h (a := l) (by omega)
  obtain ⟨K2, h2⟩ := deriv_ok h.isF (l := l) (by omega) (pk_els hl)
  rw [if_pos hl] at h1
  refine ⟨K1 + K2, fun k hk => ?_⟩
  unfold impl_Derivative.f
  simp (disch := omega) only [h1, h2, w64, tmod_pos, tdiv_pos, ↓if_pos, ↓if_neg, if_pos, if_neg, if_true, if_false, Option.bind_some, Bool.false_eq_true, Bool.not_true, Bool.not_false, ↓reduceIte]
theorem iDeriv_no {l : List Int} (h : (f < 0 ∨ 9 ≤ f) ∨ ∃ p g t, FI f p g t ∧ pk p l = false) (hl : l.length ≤ 1048576) : Ev (fun k => impl_Derivative.f k f l) [] := by
  rcases h with h | ⟨p, g, t, h, hp⟩
  · obtain ⟨K1, h1⟩ := polyField_no h [l]
    refine ⟨K1, fun k hk => ?_⟩
    unfold impl_Derivative.f
    simp (disch := omega) only [h1, w64, tmod_pos, tdiv_pos, ↓if_pos, ↓if_neg, if_pos, if_neg, if_true, if_false, Option.bind_some, Bool.false_eq_true, Bool.not_true, Bool.not_false, ↓reduceIte]
  · obtain ⟨K1, h1⟩ := polyField1 h (a := l) hl
    rw [if_neg (by simp [hp])] at h1
    refine ⟨K1, fun k hk => ?_⟩
    unfold impl_Derivative.f
    simp (disch := omega) only [h1, w64, tmod_pos, tdiv_pos, ↓if_pos, ↓if_neg, if_pos, if_neg, if_true, if_false, Option.bind_some, Bool.false_eq_true, Bool.not_true, Bool.not_false, ↓reduceIte]
theorem sDeriv_l0 (h : FI f p g t) (l : List Int) (hl : l.length ≤ 1048576) (d : Nat) : ∃ K, ∀ (k i : Nat), K + d < k → l.length - i ≤ d → (i ≤ l.length ∨ i = 1) → 1 ≤ i →
    spec_Derivative.l0 k f l (mk (i - 1) fun i => ((i + 1 : Nat) : Int) * rd l ((i + 1 : Nat) : Int) % p) i = some (dv p l) := by
  obtain ⟨K, hK⟩ := l03Cut_ok (l := mk (l.length - 1) fun i => ((i + 1 : Nat) : Int) * rd l ((i + 1 : Nat) : Int) % p) (by rw [mk_length]; omega)
  refine ⟨K, ?_⟩
  induction d with
  | zero =>
    intro k i hk hd hi hi1
    obtain ⟨k, rfl⟩ : ∃ m, k = m + 1 := ⟨k - 1, by omega⟩
    have e : i - 1 = l.length - 1 := by omega
    rw [e]
    simp (disch := omega) only [spec_Derivative.l0, hK, w64, tmod_pos, tdiv_pos, ↓if_pos, ↓if_neg, if_pos, if_neg, if_true, if_false, Option.bind_some, Bool.false_eq_true, Bool.not_true, Bool.not_false, ↓reduceIte]
    rfl
  | succ d ih =>
    intro k i hk hd hi hi1
    obtain ⟨k, rfl⟩ : ∃ m, k = m + 1 := ⟨k - 1, by omega⟩
    by_cases hlt : i < l.length
    · have e := ih k (i + 1) (by omega) (by omega) (by omega) (by omega)
      have hlen : (mk (i - 1) fun i => ((i + 1 : Nat) : Int) * rd l ((i + 1 : Nat) : Int) % p).length = i - 1 := mk_length _ _
      rw [show i + 1 - 1 = (i - 1) + 1 by omega, mk_succ, show i - 1 + 1 = i by omega] at e
      simp (disch := omega) only [spec_Derivative.l0, Mul_ok h, w64, tmod_pos, tdiv_pos, ↓if_pos, ↓if_neg, if_pos, if_neg, if_true, if_false, Option.bind_some, Bool.false_eq_true, Bool.not_true, Bool.not_false, ↓reduceIte]
      exact e
    · have e : i - 1 = l.length - 1 := by omega
      rw [e]
      simp (disch := omega) only [spec_Derivative.l0, hK, w64, tmod_pos, tdiv_pos, ↓if_pos, ↓if_neg, if_pos, if_neg, if_true, if_false, Option.bind_some, Bool.false_eq_true, Bool.not_true, Bool.not_false, ↓reduceIte]
      rfl
theorem sDeriv_ok (h : FI f p g t) {l : List Int} (hl : pk p l = true) : Ev (fun k => spec_Derivative.f k f l) (dv p l) := by
  have hlen := pk_len hl
  obtain ⟨K1, h1⟩ := PolyOk_ok h (a := l) (by omega)
  obtain ⟨K2, h2⟩ := sDeriv_l0 h l (by omega) l.length
  rw [hl] at h1
  refine ⟨K1 + K2 + l.length + 1, fun k hk => ?_⟩
  unfold spec_Derivative.f
  simp (disch := omega) only [h1, w64, tmod_pos, tdiv_pos, ↓if_pos, ↓if_neg, if_pos, if_neg, if_true, if_false, Option.bind_some, Bool.false_eq_true, Bool.not_true, Bool.not_false, ↓reduceIte]
  exact h2 k 1 (by omega) (by omega) (.inr rfl) (by omega)
theorem sDeriv_no {l : List Int} (h : (f < 0 ∨ 9 ≤ f) ∨ ∃ p g t, FI f p g t ∧ pk p l = false) (hl : l.length ≤ 1048576) : Ev (fun k => spec_Derivative.f k f l) [] := by
  rcases h with h | ⟨p, g, t, h, hp⟩
  · obtain ⟨K1, h1⟩ := PolyOk_no h l
    refine ⟨K1, fun k hk => ?_⟩
    unfold spec_Derivative.f
    simp (disch := omega) only [h1, w64, tmod_pos, tdiv_pos, ↓if_pos, ↓if_neg, if_pos, if_neg, if_true, if_false, Option.bind_some, Bool.false_eq_true, Bool.not_true, Bool.not_false, ↓reduceIte]
  · obtain ⟨K1, h1⟩ := PolyOk_ok h (a := l) hl
    rw [hp] at h1
    refine ⟨K1, fun k hk => ?_⟩
    unfold spec_Derivative.f
    simp (disch := omega) only [h1, w64, tmod_pos, tdiv_pos, ↓if_pos, ↓if_neg, if_pos, if_neg, if_true, if_false, Option.bind_some, Bool.false_eq_true, Bool.not_true, Bool.not_false, ↓reduceIte]

/-! ### AddPoly, SubPoly -/
/-- Coefficients c(a i, b i) up to the longer of both. -/
def ad (p : Int) (a b : List Int) : List Int := cut (mk (max a.length b.length) fun i => (rd a (i : Int) + rd b (i : Int)) % p)
def sb (p : Int) (a b : List Int) : List Int := cut (mk (max a.length b.length) fun i => (rd a (i : Int) - rd b (i : Int)) % p)
theorem ad_rd (p : Int) (a b : List Int) (i : Nat) : rd (ad p a b) (i : Int) = (rd a (i : Int) + rd b (i : Int)) % p := by
  unfold ad
  rw [cut_rd, mk_rd]
  split
  · rfl
  · rw [rd_ge (l := a) (by omega), rd_ge (l := b) (by omega)]; simp
theorem sb_rd (p : Int) (a b : List Int) (i : Nat) : rd (sb p a b) (i : Int) = (rd a (i : Int) - rd b (i : Int)) % p := by
  unfold sb
  rw [cut_rd, mk_rd]
  split
  · rfl
  · rw [rd_ge (l := a) (by omega), rd_ge (l := b) (by omega)]; simp
theorem ad_len (p : Int) (a b : List Int) : (ad p a b).length ≤ max a.length b.length := by
  have := cut_len (mk (max a.length b.length) fun i => (rd a (i : Int) + rd b (i : Int)) % p)
  rw [mk_length] at this; exact this
theorem sb_len (p : Int) (a b : List Int) : (sb p a b).length ≤ max a.length b.length := by
  have := cut_len (mk (max a.length b.length) fun i => (rd a (i : Int) - rd b (i : Int)) % p)
  rw [mk_length] at this; exact this
theorem ad_els {p : Int} (hp : 0 < p) (a b : List Int) : els p (ad p a b) = true := cut_els (mk_els fun i hi => emod_rng hp _)
theorem sb_els {p : Int} (hp : 0 < p) (a b : List Int) : els p (sb p a b) = true := cut_els (mk_els fun i hi => emod_rng hp _)
theorem ad_top (p : Int) (a b : List Int) : top (ad p a b) := cut_top _
theorem sb_top (p : Int) (a b : List Int) : top (sb p a b) := cut_top _
theorem ad_pk {p : Int} (hp : 0 < p) {a b : List Int} (ha : a.length ≤ 400) (hb : b.length ≤ 400) : pk p (ad p a b) = true :=
  pk_of (by have := ad_len p a b; omega) (ad_els hp a b) (ad_top p a b)
theorem sb_pk {p : Int} (hp : 0 < p) {a b : List Int} (ha : a.length ≤ 400) (hb : b.length ≤ 400) : pk p (sb p a b) = true :=
  pk_of (by have := sb_len p a b; omega) (sb_els hp a b) (sb_top p a b)
theorem sb_ad (p : Int) (a b : List Int) : ad p a (sc p b (-1)) = sb p a b := by
  apply ext_top (ad_top _ _ _) (sb_top _ _ _)
  intro i
  rw [ad_rd, sb_rd, sc_rd]
  rw [Int.add_emod, Int.emod_emod, ← Int.add_emod]
  congr 1
  omega
theorem mx_nat (a b : Nat) : mx (a : Int) (b : Int) = ((max a b : Nat) : Int) := by unfold mx; split <;> omega
/-- Two polynomials over a field, or not. -/
theorem poly_cases2 (f : Int) (a b : List Int) : (∃ p g t, FI f p g t ∧ pk p a = true ∧ pk p b = true) ∨ ((f < 0 ∨ 9 ≤ f) ∨ ∃ p g t, FI f p g t ∧ ¬ (pk p a = true ∧ pk p b = true)) := by
  rcases FI.cases f with ⟨p, g, t, h⟩ | h
  · by_cases e : pk p a = true ∧ pk p b = true
    · exact .inl ⟨p, g, t, h, e⟩
    · exact .inr (.inr ⟨p, g, t, h, e⟩)
  · exact .inr (.inl h)
/-- The reference's two checks of two lists, as one. -/
theorem twoOk_no {a b : List Int} (h : (f < 0 ∨ 9 ≤ f) ∨ ∃ p g t, FI f p g t ∧ ¬ (pk p a = true ∧ pk p b = true)) (hla : a.length ≤ 1048576) (hlb : b.length ≤ 1048576) :
    ∃ x y : Bool, Ev (fun k => spec_PolyOk.f k f a) x ∧ Ev (fun k => spec_PolyOk.f k f b) y ∧ (x = false ∨ x = true ∧ y = false) := by
  rcases h with h | ⟨p, g, t, h, hp⟩
  · exact ⟨_, _, PolyOk_no h a, PolyOk_no h b, .inl rfl⟩
  · refine ⟨_, _, PolyOk_ok h hla, PolyOk_ok h hlb, ?_⟩
    revert hp
    cases pk p a <;> cases pk p b <;> simp
end

end Go.Proofs.Ytjfmclpfdijkiaa.M
