import Derived.Test.YtjfmclpfdijkiaaG0
/- What Trim, ShiftPoly, EvalPoly, ScalePoly, Derivative, AddPoly and SubPoly come to, of the program and of the reference. -/
import Derived.Test.YtjfmclpfdijkiaaZFnExactDivModMa
import Derived.Test.YtjfmclpfdijkiaaZFnExactDivModMb
import Derived.Test.YtjfmclpfdijkiaaZFnExactDivModMc
import Derived.Test.YtjfmclpfdijkiaaZFnExactDivModMd
import Derived.Test.YtjfmclpfdijkiaaZFnExactDivModMh
import Derived.Test.YtjfmclpfdijkiaaZFnExactDivModMr
import Derived.Test.YtjfmclpfdijkiaaZFnExactDivModMx
import Derived.Test.YtjfmclpfdijkiaaWWords
import Derived.Test.YtjfmclpfdijkiaaWMore
import Derived.Test.YtjfmclpfdijkiaaZFnExactDivMod3
namespace Go.Proofs.Ytjfmclpfdijkiaa.M
open Go.RowKit Go.Proofs.Ytjfmclpfdijkiaa.P Go.Proofs.YtjfmclpfdijkiaaW.PrintWords Go.Proofs.YtjfmclpfdijkiaaW.PrintLast Go.Proofs.YtjfmclpfdijkiaaW.PrintMore
set_option linter.unusedVariables false
set_option linter.unusedSimpArgs false

section
variable {f p g t : Int}
/-! ### Trim -/
/-- The list's residues, without the last zeros. -/
def tr (p : Int) (l : List Int) : List Int := cut (mk l.length fun i => rd l (i : Int) % p)

/-! ### ScalePoly -/
def sc (p : Int) (l : List Int) (x : Int) : List Int := cut (mk l.length fun i => rd l (i : Int) * x % p)
theorem sc_len (p : Int) (l : List Int) (x : Int) : (sc p l x).length ≤ l.length := by
  have := cut_len (mk l.length fun i => rd l (i : Int) * x % p)
  rw [mk_length] at this; exact this
theorem sc_els {p : Int} (hp : 0 < p) (l : List Int) (x : Int) : els p (sc p l x) = true := cut_els (mk_els fun i hi => emod_rng hp _)
theorem sc_rd (p : Int) (l : List Int) (x : Int) (i : Nat) : rd (sc p l x) (i : Int) = rd l (i : Int) * x % p := by
  unfold sc
  rw [cut_rd, mk_rd]
  split
  · rfl
  · rw [rd_ge (by omega)]; simp
theorem sc_top (p : Int) (l : List Int) (x : Int) : top (sc p l x) := cut_top _
theorem sc_mod (p : Int) (l : List Int) (x : Int) : sc p l (x % p) = sc p l x := by
  unfold sc
  congr 1
  exact mk_congr fun i hi => by rw [Int.mul_emod, Int.emod_emod, ← Int.mul_emod]
/-- A field and a polynomial over it, or neither. -/
theorem poly_cases (f : Int) (l : List Int) : (∃ p g t, FI f p g t ∧ pk p l = true) ∨ ((f < 0 ∨ 9 ≤ f) ∨ ∃ p g t, FI f p g t ∧ pk p l = false) := by
  rcases FI.cases f with ⟨p, g, t, h⟩ | h
  · cases e : pk p l
    · exact .inr (.inr ⟨p, g, t, h, e⟩)
    · exact .inl ⟨p, g, t, h, e⟩
  · exact .inr (.inl h)

/-! ### Derivative -/
def dv (p : Int) (l : List Int) : List Int := cut (mk (l.length - 1) fun i => ((i + 1 : Nat) : Int) * rd l ((i + 1 : Nat) : Int) % p)

/-! ### AddPoly, SubPoly -/
/-- Coefficients c(a i, b i) up to the longer of both. -/
def ad (p : Int) (a b : List Int) : List Int := cut (mk (max a.length b.length) fun i => (rd a (i : Int) + rd b (i : Int)) % p)
def sb (p : Int) (a b : List Int) : List Int := cut (mk (max a.length b.length) fun i => (rd a (i : Int) - rd b (i : Int)) % p)
theorem ad_rd (p : Int) (a b : List Int) (i : Nat) : rd (ad p a b) (i : Int) = (rd a (i : Int) + rd b (i : Int)) % p := by
  unfold ad
  rw [cut_rd, mk_rd]
  split
  · rfl
  · rw [rd_ge (l := a) (by omega), rd_ge (l := b) (by omega)]; simp
theorem sb_rd (p : Int) (a b : List Int) (i : Nat) : rd (sb p a b) (i : Int) = (rd a (i : Int) - rd b (i : Int)) % p := by
  unfold sb
  rw [cut_rd, mk_rd]
  split
  · rfl
  · rw [rd_ge (l := a) (by omega), rd_ge (l := b) (by omega)]; simp
theorem ad_len (p : Int) (a b : List Int) : (ad p a b).length ≤ max a.length b.length := by
  have := cut_len (mk (max a.length b.length) fun i => (rd a (i : Int) + rd b (i : Int)) % p)
  rw [mk_length] at this; exact this
theorem sb_len (p : Int) (a b : List Int) : (sb p a b).length ≤ max a.length b.length := by
  have := cut_len (mk (max a.length b.length) fun i => (rd a (i : Int) - rd b (i : Int)) % p)
  rw [mk_length] at this; exact this
theorem ad_els {p : Int} (hp : 0 < p) (a b : List Int) : els p (ad p a b) = true := cut_els (mk_els fun i hi => emod_rng hp _)
theorem sb_els {p : Int} (hp : 0 < p) (a b : List Int) : els p (sb p a b) = true := cut_els (mk_els fun i hi => emod_rng hp _)
theorem ad_top (p : Int) (a b : List Int) : top (ad p a b) := cut_top _
theorem sb_top (p : Int) (a b : List Int) : top (sb p a b) := cut_top _
theorem ad_pk {p : Int} (hp : 0 < p) {a b : List Int} (ha : a.length ≤ 400) (hb : b.length ≤ 400) : pk p (ad p a b) = true :=
  pk_of (by have := ad_len p a b; omega) (ad_els hp a b) (ad_top p a b)
theorem sb_pk {p : Int} (hp : 0 < p) {a b : List Int} (ha : a.length ≤ 400) (hb : b.length ≤ 400) : pk p (sb p a b) = true :=
  pk_of (by have := sb_len p a b; omega) (sb_els hp a b) (sb_top p a b)
theorem sb_ad (p : Int) (a b : List Int) : ad p a (sc p b (-1)) = sb p a b := by
  apply ext_top (ad_top _ _ _) (sb_top _ _ _)
  intro i
  rw [ad_rd, sb_rd, sc_rd]
  rw [Int.add_emod, Int.emod_emod, ← Int.add_emod]
  congr 1
  omega
theorem mx_nat (a b : Nat) : mx (a : Int) (b : Int) = ((max a b : Nat) : Int) := by unfold mx; split <;> omega
/-- Two polynomials over a field, or not. -/
theorem poly_cases2 (f : Int) (a b : List Int) : (∃ p g t, FI f p g t ∧ pk p a = true ∧ pk p b = true) ∨ ((f < 0 ∨ 9 ≤ f) ∨ ∃ p g t, FI f p g t ∧ ¬ (pk p a = true ∧ pk p b = true)) := by
  rcases FI.cases f with ⟨p, g, t, h⟩ | h
  · by_cases e : pk p a = true ∧ pk p b = true
    · exact .inl ⟨p, g, t, h, e⟩
    · exact .inr (.inr ⟨p, g, t, h, e⟩)
  · exact .inr (.inl h)
/-- The reference's two checks of two lists, as one. -/
theorem twoOk_no {a b : List Int} (h : (f < 0 ∨ 9 ≤ f) ∨ ∃ p g t, FI f p g t ∧ ¬ (pk p a = true ∧ pk p b = true)) (hla : a.length ≤ 1048576) (hlb : b.length ≤ 1048576) :
    ∃ x y : Bool, Ev (fun k => spec_PolyOk.f k f a) x ∧ Ev (fun k => spec_PolyOk.f k f b) y ∧ (x = false ∨ x = true ∧ y = false) := by
  rcases h with h | ⟨p, g, t, h, hp⟩
  · exact ⟨_, _, PolyOk_no h a, PolyOk_no h b, .inl rfl⟩
  · refine ⟨_, _, PolyOk_ok h hla, PolyOk_ok h hlb, ?_⟩
    revert hp
    cases pk p a <;> cases pk p b <;> simp
end

end Go.Proofs.Ytjfmclpfdijkiaa.M
