import Derived.Test.YtigfpkbdkdihbaaZFnDivBackG
/- What Trim, ShiftPoly, EvalPoly, ScalePoly, Derivative, AddPoly and SubPoly come to, of the program and of the reference. -/
import Derived.Test.YtigfpkbdkdihbaaZFnDivBackMa
import Derived.Test.YtigfpkbdkdihbaaZFnDivBackMb
import Derived.Test.YtigfpkbdkdihbaaZFnDivBackMc
import Derived.Test.YtigfpkbdkdihbaaZFnDivBackMd
import Derived.Test.YtigfpkbdkdihbaaZFnDivBackMh
import Derived.Test.YtigfpkbdkdihbaaZFnDivBackMr
import Derived.Test.YtigfpkbdkdihbaaZFnDivBackMx
import Derived.Test.YtigfpkbdkdihbaaZFnDivBackWWords
import Derived.Test.YtigfpkbdkdihbaaZFnDivBackWMore
import Derived.Test.YtigfpkbdkdihbaaZFnDivBack3
import Derived.Test.YtigfpkbdkdihbaaZFnDivBack4
import Derived.Test.YtigfpkbdkdihbaaZFnDivBack1
import Derived.Test.YtigfpkbdkdihbaaZFnDivBack0
import Derived.Test.YtigfpkbdkdihbaaZFnDivBack5
namespace Go.Proofs.Ytigfpkbdkdihbaa.M
open Go.RowKit Go.Proofs.Ytigfpkbdkdihbaa.P Go.Proofs.YtigfpkbdkdihbaaW.PrintWords Go.Proofs.YtigfpkbdkdihbaaW.PrintLast Go.Proofs.YtigfpkbdkdihbaaW.PrintMore
set_option linter.unusedVariables false
set_option linter.unusedSimpArgs false

section
variable {f p g t : Int}



/-! ### AddPoly, SubPoly -/
/-- Coefficients c(a i, b i) up to the longer of both. -/
def ad (p : Int) (a b : List Int) : List Int := cut (mk (max a.length b.length) fun i => (rd a (i : Int) + rd b (i : Int)) % p)
theorem ad_rd (p : Int) (a b : List Int) (i : Nat) : rd (ad p a b) (i : Int) = (rd a (i : Int) + rd b (i : Int)) % p := by
  unfold ad
  rw [cut_rd, mk_rd]
  split
  · rfl
  · rw [rd_ge (l := a) (by omega), rd_ge (l := b) (by omega)]; simp
theorem ad_top (p : Int) (a b : List Int) : top (ad p a b) := cut_top _
theorem mx_nat (a b : Nat) : mx (a : Int) (b : Int) = ((max a b : Nat) : Int) := by unfold mx; split <;> omega
theorem coeff_ok {l : List Int} {i : Nat} : impl_coefficient.f l (i : Int) = some (rd l (i : Int)) := by
  unfold impl_coefficient.f
  by_cases h : l.length ≤ i
  · simp (disch := omega) only [w64, tmod_pos, tdiv_pos, ↓if_pos, ↓if_neg, if_pos, if_neg, if_true, if_false, Option.bind_some, Bool.false_eq_true, Bool.not_true, Bool.not_false, ↓reduceIte]; rw [rd_ge h]
  · simp (disch := omega) only [w64, tmod_pos, tdiv_pos, ↓if_pos, ↓if_neg, if_pos, if_neg, if_true, if_false, Option.bind_some, Bool.false_eq_true, Bool.not_true, Bool.not_false, ↓reduceIte]
theorem addPoly_l0 (h : IsF p g t) (a b : List Int) (n : Nat) (hn : n ≤ 1048576) (hm : n = max a.length b.length) (ha : els p a = true) (hb : els p b = true) (d : Nat) : ∃ K, ∀ (k i : Nat), K + d < k → n - i = d → i ≤ n →
    impl_field_addPoly.l0 k a b (mk i fun i => (rd a (i : Int) + rd b (i : Int)) % p) n i p g t = some (ad p a b) := by
  have r := h.rng
  obtain ⟨K, hK⟩ := trimmed_ok (l := mk n fun i => (rd a (i : Int) + rd b (i : Int)) % p) (by rw [mk_length]; omega)
  refine ⟨K, ?_⟩
  induction d with
  | zero =>
    intro k i hk hd hi
    obtain ⟨k, rfl⟩ : ∃ m, k = m + 1 := ⟨k - 1, by omega⟩
    obtain rfl : i = n := by omega
    simp (disch := omega) only [impl_field_addPoly.l0, hK, w64, tmod_pos, tdiv_pos, ↓if_pos, ↓if_neg, if_pos, if_neg, if_true, if_false, Option.bind_some, Bool.false_eq_true, Bool.not_true, Bool.not_false, ↓reduceIte]
    rw [hm]; rfl
  | succ d ih =>
    intro k i hk hd hi
    obtain ⟨k, rfl⟩ : ∃ m, k = m + 1 := ⟨k - 1, by omega⟩
    have hlen : (mk i fun i => (rd a (i : Int) + rd b (i : Int)) % p).length = i := mk_length _ _
    have q := els_rd' (by omega) ha (i : Int)
    have q' := els_rd' (by omega) hb (i : Int)
    simp (disch := omega) only [impl_field_addPoly.l0, coeff_ok, add_ok h q.1 q.2 q'.1 q'.2, w64, tmod_pos, tdiv_pos, ↓if_pos, ↓if_neg, if_pos, if_neg, if_true, if_false, Option.bind_some, Bool.false_eq_true, Bool.not_true, Bool.not_false, ↓reduceIte]
    have e := ih k (i + 1) (by omega) (by omega) (by omega)
    rw [mk_succ] at e
    exact e
theorem addPoly_ok (h : IsF p g t) {a b : List Int} (ha : els p a = true) (hb : els p b = true) (hla : a.length ≤ 1048576) (hlb : b.length ≤ 1048576) : Ev (fun k => impl_field_addPoly.f k p g t a b) (ad p a b) := by
  obtain ⟨K, hK⟩ := addPoly_l0 h a b (max a.length b.length) (by omega) rfl ha hb (max a.length b.length)
  refine ⟨K + max a.length b.length + 1, fun k hk => ?_⟩
  unfold impl_field_addPoly.f
  rw [mx_nat]
  exact hK k 0 (by omega) (by omega) (by omega)
theorem iAddP_ok (h : FI f p g t) {a b : List Int} (ha : pk p a = true) (hb : pk p b = true) : Ev (fun k => impl_AddPoly.f k f a b) (ad p a b) := by
  have hla := pk_len ha
  have hlb := pk_len hb
  obtain ⟨K1, h1⟩ := polyField2 h (a := a) (b := b) (by omega) (by omega)
  obtain ⟨K2, h2⟩ := addPoly_ok h.isF (pk_els ha) (pk_els hb) (by omega) (by omega)
  rw [if_pos ⟨ha, hb⟩] at h1
  refine ⟨K1 + K2, fun k hk => ?_⟩
  unfold impl_AddPoly.f
  simp (disch := omega) only [h1, h2, w64, tmod_pos, tdiv_pos, ↓if_pos, ↓if_neg, if_pos, if_neg, if_true, if_false, Option.bind_some, Bool.false_eq_true, Bool.not_true, Bool.not_false, ↓reduceIte]
end

end Go.Proofs.Ytigfpkbdkdihbaa.M
