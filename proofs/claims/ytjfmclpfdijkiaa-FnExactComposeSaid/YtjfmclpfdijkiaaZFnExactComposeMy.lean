import Derived.Test.YtjfmclpfdijkiaaG0
/- What Trim, ShiftPoly, EvalPoly, ScalePoly, Derivative, AddPoly and SubPoly come to, of the program and of the reference. -/
import Derived.Test.YtjfmclpfdijkiaaZFnExactComposeMa
import Derived.Test.YtjfmclpfdijkiaaZFnExactComposeMb
import Derived.Test.YtjfmclpfdijkiaaZFnExactComposeMc
import Derived.Test.YtjfmclpfdijkiaaZFnExactComposeMd
import Derived.Test.YtjfmclpfdijkiaaZFnExactComposeMh
import Derived.Test.YtjfmclpfdijkiaaZFnExactComposeMr
import Derived.Test.YtjfmclpfdijkiaaZFnExactComposeMx
import Derived.Test.YtjfmclpfdijkiaaWWords
import Derived.Test.YtjfmclpfdijkiaaWMore
import Derived.Test.YtjfmclpfdijkiaaZFnExactCompose0
import Derived.Test.YtjfmclpfdijkiaaZFnExactCompose4
import Derived.Test.YtjfmclpfdijkiaaZFnExactCompose1
import Derived.Test.YtjfmclpfdijkiaaZFnExactCompose3
namespace Go.Proofs.Ytjfmclpfdijkiaa.M
open Go.RowKit Go.Proofs.Ytjfmclpfdijkiaa.P Go.Proofs.YtjfmclpfdijkiaaW.PrintWords Go.Proofs.YtjfmclpfdijkiaaW.PrintLast Go.Proofs.YtjfmclpfdijkiaaW.PrintMore
set_option linter.unusedVariables false
set_option linter.unusedSimpArgs false

section
variable {f p g t : Int}
/-! ### Trim -/
/-- The list's residues, without the last zeros. -/
def tr (p : Int) (l : List Int) : List Int := cut (mk l.length fun i => rd l (i : Int) % p)

/-! ### ScalePoly -/
def sc (p : Int) (l : List Int) (x : Int) : List Int := cut (mk l.length fun i => rd l (i : Int) * x % p)
theorem sc_len (p : Int) (l : List Int) (x : Int) : (sc p l x).length ≤ l.length := by
  have := cut_len (mk l.length fun i => rd l (i : Int) * x % p)
  rw [mk_length] at this; exact this
theorem sc_els {p : Int} (hp : 0 < p) (l : List Int) (x : Int) : els p (sc p l x) = true := cut_els (mk_els fun i hi => emod_rng hp _)
theorem sc_rd (p : Int) (l : List Int) (x : Int) (i : Nat) : rd (sc p l x) (i : Int) = rd l (i : Int) * x % p := by
  unfold sc
  rw [cut_rd, mk_rd]
  split
  · rfl
  · rw [rd_ge (by omega)]; simp
theorem sc_top (p : Int) (l : List Int) (x : Int) : top (sc p l x) := cut_top _
theorem sc_mod (p : Int) (l : List Int) (x : Int) : sc p l (x % p) = sc p l x := by
  unfold sc
  congr 1
  exact mk_congr fun i hi => by rw [Int.mul_emod, Int.emod_emod, ← Int.mul_emod]
/-- A field and a polynomial over it, or neither. -/
theorem poly_cases (f : Int) (l : List Int) : (∃ p g t, FI f p g t ∧ pk p l = true) ∨ ((f < 0 ∨ 9 ≤ f) ∨ ∃ p g t, FI f p g t ∧ pk p l = false) := by
  rcases FI.cases f with ⟨p, g, t, h⟩ | h
  · cases e : pk p l
    · exact .inr (.inr ⟨p, g, t, h, e⟩)
    · exact .inl ⟨p, g, t, h, e⟩
  · exact .inr (.inl h)

/-! ### Derivative -/
def dv (p : Int) (l : List Int) : List Int := cut (mk (l.length - 1) fun i => ((i + 1 : Nat) : Int) * rd l ((i + 1 : Nat) : Int) % p)

/-! ### AddPoly, SubPoly -/
/-- Coefficients c(a i, b i) up to the longer of both. -/
def ad (p : Int) (a b : List Int) : List Int := cut (mk (max a.length b.length) fun i => (rd a (i : Int) + rd b (i : Int)) % p)
def sb (p : Int) (a b : List Int) : List Int := cut (mk (max a.length b.length) fun i => (rd a (i : Int) - rd b (i : Int)) % p)
theorem ad_rd (p : Int) (a b : List Int) (i : Nat) : rd (ad p a b) (i : Int) = (rd a (i : Int) + rd b (i : Int)) % p := by
  unfold ad
  rw [cut_rd, mk_rd]
  split
  · rfl
  · rw [rd_ge (l := a) (by omega), rd_ge (l := b) (by omega)]; simp
theorem sb_rd (p : Int) (a b : List Int) (i : Nat) : rd (sb p a b) (i : Int) = (rd a (i : Int) - rd b (i : Int)) % p := by
  unfold sb
  rw [cut_rd, mk_rd]
  split
  · rfl
  · rw [rd_ge (l := a) (by omega), rd_ge (l := b) (by omega)]; simp
theorem ad_len (p : Int) (a b : List Int) : (ad p a b).length ≤ max a.length b.length := by
  have := cut_len (mk (max a.length b.length) fun i => (rd a (i : Int) + rd b (i : Int)) % p)
  rw [mk_length] at this; exact this
theorem sb_len (p : Int) (a b : List Int) : (sb p a b).length ≤ max a.length b.length := by
  have := cut_len (mk (max a.length b.length) fun i => (rd a (i : Int) - rd b (i : Int)) % p)
  rw [mk_length] at this; exact this
theorem ad_els {p : Int} (hp : 0 < p) (a b : List Int) : els p (ad p a b) = true := cut_els (mk_els fun i hi => emod_rng hp _)
theorem sb_els {p : Int} (hp : 0 < p) (a b : List Int) : els p (sb p a b) = true := cut_els (mk_els fun i hi => emod_rng hp _)
theorem ad_top (p : Int) (a b : List Int) : top (ad p a b) := cut_top _
theorem sb_top (p : Int) (a b : List Int) : top (sb p a b) := cut_top _
theorem ad_pk {p : Int} (hp : 0 < p) {a b : List Int} (ha : a.length ≤ 400) (hb : b.length ≤ 400) : pk p (ad p a b) = true :=
  pk_of (by have := ad_len p a b; omega) (ad_els hp a b) (ad_top p a b)
theorem sb_pk {p : Int} (hp : 0 < p) {a b : List Int} (ha : a.length ≤ 400) (hb : b.length ≤ 400) : pk p (sb p a b) = true :=
  pk_of (by have := sb_len p a b; omega) (sb_els hp a b) (sb_top p a b)
theorem sb_ad (p : Int) (a b : List Int) : ad p a (sc p b (-1)) = sb p a b := by
  apply ext_top (ad_top _ _ _) (sb_top _ _ _)
  intro i
  rw [ad_rd, sb_rd, sc_rd]
  rw [Int.add_emod, Int.emod_emod, ← Int.add_emod]
  congr 1
  omega
theorem mx_nat (a b : Nat) : mx (a : Int) (b : Int) = ((max a b : Nat) : Int) := by unfold mx; split <;> omega
theorem coeff_ok {l : List Int} {i : Nat} : impl_coefficient.f l (i : Int) = some (rd l (i : Int)) := by
  unfold impl_coefficient.f
  by_cases h : l.length ≤ i
  · simp (disch := omega) only [w64, tmod_pos, tdiv_pos, ↓if_pos, ↓if_neg, if_pos, if_neg, if_true, if_false, Option.bind_some, Bool.false_eq_true, Bool.not_true, Bool.not_false, ↓reduceIte]; rw [rd_ge h]
  · simp (disch := omega) only [w64, tmod_pos, tdiv_pos, ↓if_pos, ↓if_neg, if_pos, if_neg, if_true, if_false, Option.bind_some, Bool.false_eq_true, Bool.not_true, Bool.not_false, ↓reduceIte]
theorem l03At_ok {l : List Int} {i : Nat} : spec_l03At.f l (i : Int) = some (rd l (i : Int)) := by
  unfold spec_l03At.f
  by_cases h : l.length ≤ i
  · simp (disch := omega) only [w64, tmod_pos, tdiv_pos, ↓if_pos, ↓if_neg, if_pos, if_neg, if_true, if_false, Option.bind_some, Bool.false_eq_true, Bool.not_true, Bool.not_false, ↓reduceIte]; rw [rd_ge h]
  · simp (disch := omega) only [w64, tmod_pos, tdiv_pos, ↓if_pos, ↓if_neg, if_pos, if_neg, if_true, if_false, Option.bind_some, Bool.false_eq_true, Bool.not_true, Bool.not_false, ↓reduceIte]
theorem addPoly_l0 (h : IsF p g t) (a b : List Int) (n : Nat) (hn : n ≤ 1048576) (hm : n = max a.length b.length) (ha : els p a = true) (hb : els p b = true) (d : Nat) : ∃ K, ∀ (k i : Nat), K + d < k → n - i = d → i ≤ n →
    impl_field_addPoly.l0 k a b (mk i fun i => (rd a (i : Int) + rd b (i : Int)) % p) n i p g t = some (ad p a b) := by
  have r := h.rng
  obtain ⟨K, hK⟩ := trimmed_ok (l := mk n fun i => (rd a (i : Int) + rd b (i : Int)) % p) (by rw [mk_length]; omega)
  refine ⟨K, ?_⟩
  induction d with
  | zero =>
    intro k i hk hd hi
    obtain ⟨k, rfl⟩ : ∃ m, k = m + 1 := ⟨k - 1, by omega⟩
    obtain rfl : i = n := by omega
    simp (disch := omega) only [impl_field_addPoly.l0, hK, w64, tmod_pos, tdiv_pos, ↓if_pos, ↓if_neg, if_pos, if_neg, if_true, if_false, Option.bind_some, Bool.false_eq_true, Bool.not_true, Bool.not_false, ↓reduceIte]
    rw [hm]; rfl
  | succ d ih =>
    intro k i hk hd hi
    obtain ⟨k, rfl⟩ : ∃ m, k = m + 1 := ⟨k - 1, by omega⟩
    have hlen : (mk i fun i => (rd a (i : Int) + rd b (i : Int)) % p).length = i := mk_length _ _
    have q := els_rd' (by omega) ha (i : Int)
    have q' := els_rd' (by omega) hb (i : Int)
    simp (disch := omega) only [impl_field_addPoly.l0, coeff_ok, add_ok h q.1 q.2 q'.1 q'.2, w64, tmod_pos, tdiv_pos, ↓if_pos, ↓if_neg, if_pos, if_neg, if_true, if_false, Option.bind_some, Bool.false_eq_true, Bool.not_true, Bool.not_false, ↓reduceIte]
    have e := ih k (i + 1) (by omega) (by omega) (by omega)
    rw [mk_succ] at e
    exact e
theorem addPoly_ok (h : IsF p g t) {a b : List Int} (ha : els p a = true) (hb : els p b = true) (hla : a.length ≤ 1048576) (hlb : b.length ≤ 1048576) : Ev (fun k => impl_field_addPoly.f k p g t a b) (ad p a b) := by
  obtain ⟨K, hK⟩ := addPoly_l0 h a b (max a.length b.length) (by omega) rfl ha hb (max a.length b.length)
  refine ⟨K + max a.length b.length + 1, fun k hk => ?_⟩
  unfold impl_field_addPoly.f
  rw [mx_nat]
  exact hK k 0 (by omega) (by omega) (by omega)
/-- Two polynomials over a field, or not. -/
theorem poly_cases2 (f : Int) (a b : List Int) : (∃ p g t, FI f p g t ∧ pk p a = true ∧ pk p b = true) ∨ ((f < 0 ∨ 9 ≤ f) ∨ ∃ p g t, FI f p g t ∧ ¬ (pk p a = true ∧ pk p b = true)) := by
  rcases FI.cases f with ⟨p, g, t, h⟩ | h
  · by_cases e : pk p a = true ∧ pk p b = true
    · exact .inl ⟨p, g, t, h, e⟩
    · exact .inr (.inr ⟨p, g, t, h, e⟩)
  · exact .inr (.inl h)
/-- The reference's two checks of two lists, as one. -/
theorem twoOk_no {a b : List Int} (h : (f < 0 ∨ 9 ≤ f) ∨ ∃ p g t, FI f p g t ∧ ¬ (pk p a = true ∧ pk p b = true)) (hla : a.length ≤ 1048576) (hlb : b.length ≤ 1048576) :
    ∃ x y : Bool, Ev (fun k => spec_PolyOk.f k f a) x ∧ Ev (fun k => spec_PolyOk.f k f b) y ∧ (x = false ∨ x = true ∧ y = false) := by
  rcases h with h | ⟨p, g, t, h, hp⟩
  · exact ⟨_, _, PolyOk_no h a, PolyOk_no h b, .inl rfl⟩
  · refine ⟨_, _, PolyOk_ok h hla, PolyOk_ok h hlb, ?_⟩
    revert hp
    cases pk p a <;> cases pk p b <;> simp
theorem sAddP_l0 (h : FI f p g t) (a b : List Int) (n : Nat) (hn : n ≤ 1048576) (hm : n = max a.length b.length) (d : Nat) : ∃ K, ∀ (k i : Nat), K + 2 * d + 1 < k → n - i = d → i ≤ n →
    spec_AddPoly.l0 k f a b (mk i fun i => (rd a (i : Int) + rd b (i : Int)) % p) i = some (ad p a b) := by
  obtain ⟨K, hK⟩ := l03Cut_ok (l := mk n fun i => (rd a (i : Int) + rd b (i : Int)) % p) (by rw [mk_length]; omega)
  refine ⟨K, ?_⟩
  induction d with
  | zero =>
    intro k i hk hd hi
    obtain ⟨k, rfl⟩ : ∃ m, k = m + 2 := ⟨k - 2, by omega⟩
    obtain rfl : i = n := by omega
    have hd2 : decide ((i : Int) < (b.length : Int)) = false := decide_eq_false (by omega)
    simp (disch := omega) only [spec_AddPoly.l0, hd2, spec_AddPoly.j2, hK, w64, tmod_pos, tdiv_pos, ↓if_pos, ↓if_neg, if_pos, if_neg, if_true, if_false, Option.bind_some, Bool.false_eq_true, Bool.not_true, Bool.not_false, ↓reduceIte]
    rw [hm]; rfl
  | succ d ih =>
    intro k i hk hd hi
    obtain ⟨k, rfl⟩ : ∃ m, k = m + 2 := ⟨k - 2, by omega⟩
    have hlen : (mk i fun i => (rd a (i : Int) + rd b (i : Int)) % p).length = i := mk_length _ _
    have e := ih k (i + 1) (by omega) (by omega) (by omega)
    rw [mk_succ] at e
    by_cases hia : i < a.length
    · simp (disch := omega) only [spec_AddPoly.l0, spec_AddPoly.j2, l03At_ok, Add_ok h, w64, tmod_pos, tdiv_pos, ↓if_pos, ↓if_neg, if_pos, if_neg, if_true, if_false, Option.bind_some, Bool.false_eq_true, Bool.not_true, Bool.not_false, ↓reduceIte]
      exact e
    · have hd2 : decide ((i : Int) < (b.length : Int)) = true := decide_eq_true (by omega)
      simp (disch := omega) only [spec_AddPoly.l0, hd2, spec_AddPoly.j2, l03At_ok, Add_ok h, w64, tmod_pos, tdiv_pos, ↓if_pos, ↓if_neg, if_pos, if_neg, if_true, if_false, Option.bind_some, Bool.false_eq_true, Bool.not_true, Bool.not_false, ↓reduceIte]
      exact e
theorem sAddP_ok (h : FI f p g t) {a b : List Int} (ha : pk p a = true) (hb : pk p b = true) : Ev (fun k => spec_AddPoly.f k f a b) (ad p a b) := by
  have hla := pk_len ha
  have hlb := pk_len hb
  obtain ⟨K1, h1⟩ := PolyOk_ok h (a := a) (by omega)
  obtain ⟨K2, h2⟩ := PolyOk_ok h (a := b) (by omega)
  obtain ⟨K3, h3⟩ := sAddP_l0 h a b (max a.length b.length) (by omega) rfl (max a.length b.length)
  rw [ha] at h1
  rw [hb] at h2
  refine ⟨K1 + K2 + K3 + 2 * max a.length b.length + 4, fun k hk => ?_⟩
  obtain ⟨k, rfl⟩ : ∃ m, k = m + 1 := ⟨k - 1, by omega⟩
  unfold spec_AddPoly.f
  simp (disch := omega) only [h1, h2, spec_AddPoly.j0, w64, tmod_pos, tdiv_pos, ↓if_pos, ↓if_neg, if_pos, if_neg, if_true, if_false, Option.bind_some, Bool.false_eq_true, Bool.not_true, Bool.not_false, ↓reduceIte]
  exact h3 k 0 (by omega) (by omega) (by omega)
theorem sAddP_no {a b : List Int} (h : (f < 0 ∨ 9 ≤ f) ∨ ∃ p g t, FI f p g t ∧ ¬ (pk p a = true ∧ pk p b = true)) (hla : a.length ≤ 1048576) (hlb : b.length ≤ 1048576) : Ev (fun k => spec_AddPoly.f k f a b) [] := by
  obtain ⟨x, y, ⟨K1, h1⟩, ⟨K2, h2⟩, hxy⟩ := twoOk_no h hla hlb
  refine ⟨K1 + K2 + 1, fun k hk => ?_⟩
  obtain ⟨k, rfl⟩ : ∃ m, k = m + 1 := ⟨k - 1, by omega⟩
  unfold spec_AddPoly.f
  rcases hxy with rfl | ⟨rfl, rfl⟩
  · simp (disch := omega) only [h1, spec_AddPoly.j0, w64, tmod_pos, tdiv_pos, ↓if_pos, ↓if_neg, if_pos, if_neg, if_true, if_false, Option.bind_some, Bool.false_eq_true, Bool.not_true, Bool.not_false, ↓reduceIte]
  · simp (disch := omega) only [h1, h2, spec_AddPoly.j0, w64, tmod_pos, tdiv_pos, ↓if_pos, ↓if_neg, if_pos, if_neg, if_true, if_false, Option.bind_some, Bool.false_eq_true, Bool.not_true, Bool.not_false, ↓reduceIte]
end

end Go.Proofs.Ytjfmclpfdijkiaa.M
