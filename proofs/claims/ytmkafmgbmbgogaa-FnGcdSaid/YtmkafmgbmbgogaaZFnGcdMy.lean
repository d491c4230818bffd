import Derived.Test.YtmkafmgbmbgogaaZFnGcdG
/- What Trim, ShiftPoly, EvalPoly, ScalePoly, Derivative, AddPoly and SubPoly come to, of the program and of the reference. -/
import Derived.Test.YtmkafmgbmbgogaaZFnGcdMa
import Derived.Test.YtmkafmgbmbgogaaZFnGcdMb
import Derived.Test.YtmkafmgbmbgogaaZFnGcdMc
import Derived.Test.YtmkafmgbmbgogaaZFnGcdMd
import Derived.Test.YtmkafmgbmbgogaaZFnGcdMh
import Derived.Test.YtmkafmgbmbgogaaZFnGcdMr
import Derived.Test.YtmkafmgbmbgogaaZFnGcdMx
import Derived.Test.YtmkafmgbmbgogaaZFnGcdWWords
import Derived.Test.YtmkafmgbmbgogaaZFnGcdWMore
import Derived.Test.YtmkafmgbmbgogaaZFnGcd1
import Derived.Test.YtmkafmgbmbgogaaZFnGcd0
import Derived.Test.YtmkafmgbmbgogaaZFnGcd4
import Derived.Test.YtmkafmgbmbgogaaZFnGcd3
import Derived.Test.YtmkafmgbmbgogaaZFnGcd2
namespace Go.Proofs.Ytmkafmgbmbgogaa.M
open Go.RowKit Go.Proofs.Ytmkafmgbmbgogaa.P Go.Proofs.YtmkafmgbmbgogaaW.PrintWords Go.Proofs.YtmkafmgbmbgogaaW.PrintLast Go.Proofs.YtmkafmgbmbgogaaW.PrintMore
set_option linter.unusedVariables false
set_option linter.unusedSimpArgs false

section
variable {f p g t : Int}
/-! ### Trim -/
/-- The list's residues, without the last zeros. -/
def tr (p : Int) (l : List Int) : List Int := cut (mk l.length fun i => rd l (i : Int) % p)

/-! ### ScalePoly -/
def sc (p : Int) (l : List Int) (x : Int) : List Int := cut (mk l.length fun i => rd l (i : Int) * x % p)
theorem sc_len (p : Int) (l : List Int) (x : Int) : (sc p l x).length ≤ l.length := by
  have := cut_len (mk l.length fun i => rd l (i : Int) * x % p)
  rw [mk_length] at this; exact this
theorem sc_els {p : Int} (hp : 0 < p) (l : List Int) (x : Int) : els p (sc p l x) = true := cut_els (mk_els fun i hi => emod_rng hp _)
theorem sc_rd (p : Int) (l : List Int) (x : Int) (i : Nat) : rd (sc p l x) (i : Int) = rd l (i : Int) * x % p := by
  unfold sc
  rw [cut_rd, mk_rd]
  split
  · rfl
  · rw [rd_ge (by omega)]; simp
theorem sc_top (p : Int) (l : List Int) (x : Int) : top (sc p l x) := cut_top _
theorem scale_l0 (h : IsF p g t) (l : List Int) (hl : l.length ≤ 1048576) (he : els p l = true) {x : Int} (hx : 0 ≤ x) (hx' : x < p) (d : Nat) : ∃ K, ∀ (k i : Nat), K + d < k → l.length - i = d → i ≤ l.length →
    impl_field_scalePoly.l0 k x (mk i fun i => rd l (i : Int) * x % p) l l.length i p g t = some (sc p l x) := by
  obtain ⟨K, hK⟩ := trimmed_ok (l := mk l.length fun i => rd l (i : Int) * x % p) (by rw [mk_length]; exact hl)
  refine ⟨K, ?_⟩
  induction d with
  | zero =>
    intro k i hk hd hi
    obtain ⟨k, rfl⟩ : ∃ m, k = m + 1 := ⟨k - 1, by omega⟩
    obtain rfl : i = l.length := by omega
    simp (disch := omega) only [impl_field_scalePoly.l0, hK, w64, tmod_pos, tdiv_pos, ↓if_pos, ↓if_neg, if_pos, if_neg, if_true, if_false, Option.bind_some, Bool.false_eq_true, Bool.not_true, Bool.not_false, ↓reduceIte]
    rfl
  | succ d ih =>
    intro k i hk hd hi
    obtain ⟨k, rfl⟩ : ∃ m, k = m + 1 := ⟨k - 1, by omega⟩
    have hlen : (mk i fun i => rd l (i : Int) * x % p).length = i := mk_length _ _
    have q := els_rd he (i := (i : Int)) (by omega) (by omega)
    simp (disch := omega) only [impl_field_scalePoly.l0, mul_ok h q.1 q.2 hx hx', w64, tmod_pos, tdiv_pos, ↓if_pos, ↓if_neg, if_pos, if_neg, if_true, if_false, Option.bind_some, Bool.false_eq_true, Bool.not_true, Bool.not_false, ↓reduceIte]
    have e := ih k (i + 1) (by omega) (by omega) (by omega)
    rw [mk_succ] at e
    exact e
theorem scale_ok (h : IsF p g t) {l : List Int} (hl : l.length ≤ 1048576) (he : els p l = true) {x : Int} (hx : 0 ≤ x) (hx' : x < p) : Ev (fun k => impl_field_scalePoly.f k p g t l x) (sc p l x) := by
  obtain ⟨K, hK⟩ := scale_l0 h l hl he hx hx' l.length
  refine ⟨K + l.length + 1, fun k hk => ?_⟩
  unfold impl_field_scalePoly.f
  exact hK k 0 (by omega) (by omega) (by omega)
theorem sScale_l0 (h : FI f p g t) (l : List Int) (hl : l.length ≤ 1048576) (x : Int) (d : Nat) : ∃ K, ∀ (k i : Nat), K + d < k → l.length - i = d → i ≤ l.length →
    spec_ScalePoly.l0 k f l x (mk i fun i => rd l (i : Int) * x % p) i = some (sc p l x) := by
  obtain ⟨K, hK⟩ := l03Cut_ok (l := mk l.length fun i => rd l (i : Int) * x % p) (by rw [mk_length]; exact hl)
  refine ⟨K, ?_⟩
  induction d with
  | zero =>
    intro k i hk hd hi
    obtain ⟨k, rfl⟩ : ∃ m, k = m + 1 := ⟨k - 1, by omega⟩
    obtain rfl : i = l.length := by omega
    simp (disch := omega) only [spec_ScalePoly.l0, hK, w64, tmod_pos, tdiv_pos, ↓if_pos, ↓if_neg, if_pos, if_neg, if_true, if_false, Option.bind_some, Bool.false_eq_true, Bool.not_true, Bool.not_false, ↓reduceIte]
    rfl
  | succ d ih =>
    intro k i hk hd hi
    obtain ⟨k, rfl⟩ : ∃ m, k = m + 1 := ⟨k - 1, by omega⟩
    have hlen : (mk i fun i => rd l (i : Int) * x % p).length = i := mk_length _ _
    simp (disch := omega) only [spec_ScalePoly.l0, Mul_ok h, w64, tmod_pos, tdiv_pos, ↓if_pos, ↓if_neg, if_pos, if_neg, if_true, if_false, Option.bind_some, Bool.false_eq_true, Bool.not_true, Bool.not_false, ↓reduceIte]
    have e := ih k (i + 1) (by omega) (by omega) (by omega)
    rw [mk_succ] at e
    exact e
theorem sScale_ok (h : FI f p g t) {l : List Int} (hl : pk p l = true) (x : Int) : Ev (fun k => spec_ScalePoly.f k f l x) (sc p l x) := by
  have hlen := pk_len hl
  obtain ⟨K1, h1⟩ := PolyOk_ok h (a := l) (by omega)
  obtain ⟨K2, h2⟩ := sScale_l0 h l (by omega) x l.length
  rw [hl] at h1
  refine ⟨K1 + K2 + l.length + 1, fun k hk => ?_⟩
  unfold spec_ScalePoly.f
  simp (disch := omega) only [h1, w64, tmod_pos, tdiv_pos, ↓if_pos, ↓if_neg, if_pos, if_neg, if_true, if_false, Option.bind_some, Bool.false_eq_true, Bool.not_true, Bool.not_false, ↓reduceIte]
  exact h2 k 0 (by omega) (by omega) (by omega)


/-! ### AddPoly, SubPoly -/
/-- Coefficients c(a i, b i) up to the longer of both. -/
def ad (p : Int) (a b : List Int) : List Int := cut (mk (max a.length b.length) fun i => (rd a (i : Int) + rd b (i : Int)) % p)
def sb (p : Int) (a b : List Int) : List Int := cut (mk (max a.length b.length) fun i => (rd a (i : Int) - rd b (i : Int)) % p)
theorem sb_rd (p : Int) (a b : List Int) (i : Nat) : rd (sb p a b) (i : Int) = (rd a (i : Int) - rd b (i : Int)) % p := by
  unfold sb
  rw [cut_rd, mk_rd]
  split
  · rfl
  · rw [rd_ge (l := a) (by omega), rd_ge (l := b) (by omega)]; simp
theorem sb_len (p : Int) (a b : List Int) : (sb p a b).length ≤ max a.length b.length := by
  have := cut_len (mk (max a.length b.length) fun i => (rd a (i : Int) - rd b (i : Int)) % p)
  rw [mk_length] at this; exact this
theorem sb_els {p : Int} (hp : 0 < p) (a b : List Int) : els p (sb p a b) = true := cut_els (mk_els fun i hi => emod_rng hp _)
theorem sb_top (p : Int) (a b : List Int) : top (sb p a b) := cut_top _
end

end Go.Proofs.Ytmkafmgbmbgogaa.M
