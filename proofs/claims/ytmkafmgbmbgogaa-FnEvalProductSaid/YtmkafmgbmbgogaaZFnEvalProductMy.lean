import Derived.Test.YtmkafmgbmbgogaaZFnEvalProductG
/- What Trim, ShiftPoly, EvalPoly, ScalePoly, Derivative, AddPoly and SubPoly come to, of the program and of the reference. -/
import Derived.Test.YtmkafmgbmbgogaaZFnEvalProductMa
import Derived.Test.YtmkafmgbmbgogaaZFnEvalProductMb
import Derived.Test.YtmkafmgbmbgogaaZFnEvalProductMc
import Derived.Test.YtmkafmgbmbgogaaZFnEvalProductMd
import Derived.Test.YtmkafmgbmbgogaaZFnEvalProductMh
import Derived.Test.YtmkafmgbmbgogaaZFnEvalProductMr
import Derived.Test.YtmkafmgbmbgogaaZFnEvalProductMx
import Derived.Test.YtmkafmgbmbgogaaZFnEvalProductWWords
import Derived.Test.YtmkafmgbmbgogaaZFnEvalProductWMore
import Derived.Test.YtmkafmgbmbgogaaZFnEvalProduct3
import Derived.Test.YtmkafmgbmbgogaaZFnEvalProduct2
import Derived.Test.YtmkafmgbmbgogaaZFnEvalProduct1
namespace Go.Proofs.Ytmkafmgbmbgogaa.M
open Go.RowKit Go.Proofs.Ytmkafmgbmbgogaa.P Go.Proofs.YtmkafmgbmbgogaaW.PrintWords Go.Proofs.YtmkafmgbmbgogaaW.PrintLast Go.Proofs.YtmkafmgbmbgogaaW.PrintMore
set_option linter.unusedVariables false
set_option linter.unusedSimpArgs false

section
variable {f p g t : Int}



/-! ### AddPoly, SubPoly -/
/-- Coefficients c(a i, b i) up to the longer of both. -/
def ad (p : Int) (a b : List Int) : List Int := cut (mk (max a.length b.length) fun i => (rd a (i : Int) + rd b (i : Int)) % p)
theorem ad_rd (p : Int) (a b : List Int) (i : Nat) : rd (ad p a b) (i : Int) = (rd a (i : Int) + rd b (i : Int)) % p := by
  unfold ad
  rw [cut_rd, mk_rd]
  split
  · rfl
  · rw [rd_ge (l := a) (by omega), rd_ge (l := b) (by omega)]; simp
theorem ad_len (p : Int) (a b : List Int) : (ad p a b).length ≤ max a.length b.length := by
  have := cut_len (mk (max a.length b.length) fun i => (rd a (i : Int) + rd b (i : Int)) % p)
  rw [mk_length] at this; exact this
theorem ad_els {p : Int} (hp : 0 < p) (a b : List Int) : els p (ad p a b) = true := cut_els (mk_els fun i hi => emod_rng hp _)
theorem ad_top (p : Int) (a b : List Int) : top (ad p a b) := cut_top _
theorem mx_nat (a b : Nat) : mx (a : Int) (b : Int) = ((max a b : Nat) : Int) := by unfold mx; split <;> omega
theorem coeff_ok {l : List Int} {i : Nat} : impl_coefficient.f l (i : Int) = some (rd l (i : Int)) := by
  unfold impl_coefficient.f
  by_cases h : l.length ≤ i
  · simp (disch := omega) only [w64, tmod_pos, tdiv_pos, ↓if_pos, ↓if_neg, if_pos, if_neg, if_true, if_false, Option.bind_some, Bool.false_eq_true, Bool.not_true, Bool.not_false, ↓reduceIte]; rw [rd_ge h]
  · simp (disch := omega) only [w64, tmod_pos, tdiv_pos, ↓if_pos, ↓if_neg, if_pos, if_neg, if_true, if_false, Option.bind_some, Bool.false_eq_true, Bool.not_true, Bool.not_false, ↓reduceIte]
theorem l03At_ok {l : List Int} {i : Nat} : spec_l03At.f l (i : Int) = some (rd l (i : Int)) := by
  unfold spec_l03At.f
  by_cases h : l.length ≤ i
  · simp (disch := omega) only [w64, tmod_pos, tdiv_pos, ↓if_pos, ↓if_neg, if_pos, if_neg, if_true, if_false, Option.bind_some, Bool.false_eq_true, Bool.not_true, Bool.not_false, ↓reduceIte]; rw [rd_ge h]
  · simp (disch := omega) only [w64, tmod_pos, tdiv_pos, ↓if_pos, ↓if_neg, if_pos, if_neg, if_true, if_false, Option.bind_some, Bool.false_eq_true, Bool.not_true, Bool.not_false, ↓reduceIte]
theorem addPoly_l0 (h : IsF p g t) (a b : List Int) (n : Nat) (hn : n ≤ 1048576) (hm : n = max a.length b.length) (ha : els p a = true) (hb : els p b = true) (d : Nat) : ∃ K, ∀ (k i : Nat), K + d < k → n - i = d → i ≤ n →
    impl_field_addPoly.l0 k a b (mk i fun i => (rd a (i : Int) + rd b (i : Int)) % p) n i p g t = some (ad p a b) := by
  have r := h.rng
  obtain ⟨K, hK⟩ := trimmed_ok (l := mk n fun i => (rd a (i : Int) + rd b (i : Int)) % p) (by rw [mk_length]; omega)
  refine ⟨K, ?_⟩
  induction d with
  | zero =>
    intro k i hk hd hi
    obtain ⟨k, rfl⟩ : ∃ m, k = m + 1 := ⟨k - 1, by omega⟩
    obtain rfl : i = n := by omega
    simp (disch := omega) only [impl_field_addPoly.l0, hK, w64, tmod_pos, tdiv_pos, ↓if_pos, ↓if_neg, if_pos, if_neg, if_true, if_false, Option.bind_some, Bool.false_eq_true, Bool.not_true, Bool.not_false, ↓reduceIte]
    rw [hm]; rfl
  | succ d ih =>
    intro k i hk hd hi
    obtain ⟨k, rfl⟩ : ∃ m, k = m + 1 := ⟨k - 1, by omega⟩
    have hlen : (mk i fun i => (rd a (i : Int) + rd b (i : Int)) % p).length = i := mk_length _ _
    have q := els_rd' (by omega) ha (i : Int)
    have q' := els_rd' (by omega) hb (i : Int)
    simp (disch := omega) only [impl_field_addPoly.l0, coeff_ok, add_ok h q.1 q.2 q'.1 q'.2, w64, tmod_pos, tdiv_pos, ↓if_pos, ↓if_neg, if_pos, if_neg, if_true, if_false, Option.bind_some, Bool.false_eq_true, Bool.not_true, Bool.not_false, ↓reduceIte]
    have e := ih k (i + 1) (by omega) (by omega) (by omega)
    rw [mk_succ] at e
    exact e
theorem addPoly_ok (h : IsF p g t) {a b : List Int} (ha : els p a = true) (hb : els p b = true) (hla : a.length ≤ 1048576) (hlb : b.length ≤ 1048576) : Ev (fun k => impl_field_addPoly.f k p g t a b) (ad p a b) := by
  obtain ⟨K, hK⟩ := addPoly_l0 h a b (max a.length b.length) (by omega) rfl ha hb (max a.length b.length)
  refine ⟨K + max a.length b.length + 1, fun k hk => ?_⟩
  unfold impl_field_addPoly.f
  rw [mx_nat]
  exact hK k 0 (by omega) (by omega) (by omega)
theorem sAddP_l0 (h : FI f p g t) (a b : List Int) (n : Nat) (hn : n ≤ 1048576) (hm : n = max a.length b.length) (d : Nat) : ∃ K, ∀ (k i : Nat), K + 2 * d + 1 < k → n - i = d → i ≤ n →
    spec_AddPoly.l0 k f a b (mk i fun i => (rd a (i : Int) + rd b (i : Int)) % p) i = some (ad p a b) := by
  obtain ⟨K, hK⟩ := l03Cut_ok (l := mk n fun i => (rd a (i : Int) + rd b (i : Int)) % p) (by rw [mk_length]; omega)
  refine ⟨K, ?_⟩
  induction d with
  | zero =>
    intro k i hk hd hi
    obtain ⟨k, rfl⟩ : ∃ m, k = m + 2 := ⟨k - 2, by omega⟩
    obtain rfl : i = n := by omega
    have hd2 : decide ((i : Int) < (b.length : Int)) = false := decide_eq_false (by omega)
    simp (disch := omega) only [spec_AddPoly.l0, hd2, spec_AddPoly.j2, hK, w64, tmod_pos, tdiv_pos, ↓if_pos, ↓if_neg, if_pos, if_neg, if_true, if_false, Option.bind_some, Bool.false_eq_true, Bool.not_true, Bool.not_false, ↓reduceIte]
    rw [hm]; rfl
  | succ d ih =>
    intro k i hk hd hi
    obtain ⟨k, rfl⟩ : ∃ m, k = m + 2 := ⟨k - 2, by omega⟩
    have hlen : (mk i fun i => (rd a (i : Int) + rd b (i : Int)) % p).length = i := mk_length _ _
    have e := ih k (i + 1) (by omega) (by omega) (by omega)
    rw [mk_succ] at e
    by_cases hia : i < a.length
    · simp (disch := omega) only [spec_AddPoly.l0, spec_AddPoly.j2, l03At_ok, Add_ok h, w64, tmod_pos, tdiv_pos, ↓if_pos, ↓if_neg, if_pos, if_neg, if_true, if_false, Option.bind_some, Bool.false_eq_true, Bool.not_true, Bool.not_false, ↓reduceIte]
      exact e
    · have hd2 : decide ((i : Int) < (b.length : Int)) = true := decide_eq_true (by omega)
      simp (disch := omega) only [spec_AddPoly.l0, hd2, spec_AddPoly.j2, l03At_ok, Add_ok h, w64, tmod_pos, tdiv_pos, ↓if_pos, ↓if_neg, if_pos, if_neg, if_true, if_false, Option.bind_some, Bool.false_eq_true, Bool.not_true, Bool.not_false, ↓reduceIte]
      exact e
theorem sAddP_ok (h : FI f p g t) {a b : List Int} (ha : pk p a = true) (hb : pk p b = true) : Ev (fun k => spec_AddPoly.f k f a b) (ad p a b) := by
  have hla := pk_len ha
  have hlb := pk_len hb
  obtain ⟨K1, h1⟩ := PolyOk_ok h (a := a) (by omega)
  obtain ⟨K2, h2⟩ := PolyOk_ok h (a := b) (by omega)
  obtain ⟨K3, h3⟩ := sAddP_l0 h a b (max a.length b.length) (by omega) rfl (max a.length b.length)
  rw [ha] at h1
  rw [hb] at h2
  refine ⟨K1 + K2 + K3 + 2 * max a.length b.length + 4, fun k hk => ?_⟩
  obtain ⟨k, rfl⟩ : ∃ m, k = m + 1 := ⟨k - 1, by omega⟩
  unfold spec_AddPoly.f
  simp (disch := omega) only [h1, h2, spec_AddPoly.j0, w64, tmod_pos, tdiv_pos, ↓if_pos, ↓if_neg, if_pos, if_neg, if_true, if_false, Option.bind_some, Bool.false_eq_true, Bool.not_true, Bool.not_false, ↓reduceIte]
  exact h3 k 0 (by omega) (by omega) (by omega)
end

end Go.Proofs.Ytmkafmgbmbgogaa.M
