import Derived.Test.YtmkafmgbmbgogaaG0
/- What GcdPoly, PowMod and SquareFree come to, of the program and of the reference. -/
import Derived.Test.YtmkafmgbmbgogaaZFnExactSquareFreeMa
import Derived.Test.YtmkafmgbmbgogaaZFnExactSquareFreeMb
import Derived.Test.YtmkafmgbmbgogaaZFnExactSquareFreeMc
import Derived.Test.YtmkafmgbmbgogaaZFnExactSquareFreeMd
import Derived.Test.YtmkafmgbmbgogaaZFnExactSquareFreeMh
import Derived.Test.YtmkafmgbmbgogaaZFnExactSquareFreeMr
import Derived.Test.YtmkafmgbmbgogaaZFnExactSquareFreeMx
import Derived.Test.YtmkafmgbmbgogaaZFnExactSquareFreeMy
import Derived.Test.YtmkafmgbmbgogaaZFnExactSquareFreeMm
import Derived.Test.YtmkafmgbmbgogaaZFnExactSquareFreeMw
import Derived.Test.YtmkafmgbmbgogaaWWords
import Derived.Test.YtmkafmgbmbgogaaWMore
import Derived.Test.YtmkafmgbmbgogaaZFnExactSquareFree12
import Derived.Test.YtmkafmgbmbgogaaZFnExactSquareFree11
import Derived.Test.YtmkafmgbmbgogaaZFnExactSquareFree10
import Derived.Test.YtmkafmgbmbgogaaZFnExactSquareFree9
import Derived.Test.YtmkafmgbmbgogaaZFnExactSquareFree8
import Derived.Test.YtmkafmgbmbgogaaZFnExactSquareFree4
import Derived.Test.YtmkafmgbmbgogaaZFnExactSquareFree3
import Derived.Test.YtmkafmgbmbgogaaZFnExactSquareFree0
import Derived.Test.YtmkafmgbmbgogaaZFnExactSquareFree2
import Derived.Test.YtmkafmgbmbgogaaZFnExactSquareFree1
import Derived.Test.YtmkafmgbmbgogaaZFnExactSquareFree13
import Derived.Test.YtmkafmgbmbgogaaZFnExactSquareFree7
import Derived.Test.YtmkafmgbmbgogaaZFnExactSquareFree5
namespace Go.Proofs.Ytmkafmgbmbgogaa.M
open Go.RowKit Go.Proofs.Ytmkafmgbmbgogaa.P Go.Proofs.YtmkafmgbmbgogaaW.PrintWords Go.Proofs.YtmkafmgbmbgogaaW.PrintLast Go.Proofs.YtmkafmgbmbgogaaW.PrintMore
set_option linter.unusedVariables false
set_option linter.unusedSimpArgs false

def rm (p : Int) (a b : List Int) : List Int := (dm p a b).2
/-- Euclid's way. -/
def egcd (p : Int) : Nat → List Int → List Int → List Int
  | 0, a, _ => a
  | n + 1, a, b => if b.length = 0 then a else egcd p n b (rm p a b)
def mon (p : Int) (a : List Int) : List Int := if a.length = 0 then [] else sc p a (iv1 p a)
def gcd (p : Int) (a b : List Int) : List Int := mon p (egcd p (b.length + 1) a b)
theorem egcd_pk {p : Int} (hp : 0 < p) (n : Nat) : ∀ a b, pk p a = true → pk p b = true → pk p (egcd p n a b) = true := by
  induction n with
  | zero => intro a b ha hb; exact ha
  | succ n ih =>
    intro a b ha hb
    rw [egcd]
    split
    · exact ha
    · exact ih _ _ hb (dm_rem_pk hp (pk_els ha) (pk_top' ha) (by omega) (pk_len hb))
theorem mon_len (p : Int) (a : List Int) : (mon p a).length ≤ a.length := by
  unfold mon
  split
  · simp
  · exact sc_len p a _
theorem gcd_len {p : Int} (hp : 0 < p) {a b : List Int} (ha : pk p a = true) (hb : pk p b = true) : (gcd p a b).length ≤ 400 := by
  have h1 := mon_len p (egcd p (b.length + 1) a b)
  have h2 := pk_len (egcd_pk hp (b.length + 1) a b ha hb)
  unfold gcd
  omega
theorem dv_els {p : Int} (hp : 0 < p) (l : List Int) : els p (dv p l) = true := cut_els (mk_els fun i hi => emod_rng hp _)
theorem dv_len' (p : Int) (l : List Int) : (dv p l).length ≤ l.length := by
  have := cut_len (mk (l.length - 1) fun i => ((i + 1 : Nat) : Int) * rd l ((i + 1 : Nat) : Int) % p)
  rw [mk_length] at this
  unfold dv; omega
theorem dv_pk {p : Int} (hp : 0 < p) {l : List Int} (h : pk p l = true) : pk p (dv p l) = true :=
  pk_of (by have := dv_len' p l; have := pk_len h; omega) (dv_els hp l) (cut_top _)
section
variable {f p g t : Int}
theorem monic_ok (h : IsF p g t) {a : List Int} (ha : pk p a = true) : Ev (fun k => impl_field_monic.f k p g t a) (mon p a) := by
  have r := h.rng
  have hla := pk_len ha
  by_cases c : a.length = 0
  · refine ⟨0, fun k hk => ?_⟩
    unfold impl_field_monic.f mon
    simp (disch := omega) only [w64, tmod_pos, tdiv_pos, ↓if_pos, ↓if_neg, if_pos, if_neg, if_true, if_false, Option.bind_some, Bool.false_eq_true, Bool.not_true, Bool.not_false, ↓reduceIte]
  · have q1 := els_rd (pk_els ha) (i := ((a.length - 1 : Nat) : Int)) (by omega) (by omega)
    obtain ⟨K1, h1⟩ := inverse_ok h q1.1 q1.2
    have q2 := emod_rng (p := p) (by omega) (rd a ((a.length - 1 : Nat) : Int) ^ (p.toNat - 2))
    obtain ⟨K2, h2⟩ := scale_ok h (l := a) (by omega) (pk_els ha) q2.1 q2.2
    refine ⟨K1 + K2, fun k hk => ?_⟩
    have e2 : ((a.length : Int) - 1) = ((a.length - 1 : Nat) : Int) := by omega
    unfold impl_field_monic.f mon
    simp (disch := omega) only [e2, h1, h2, w64, tmod_pos, tdiv_pos, ↓if_pos, ↓if_neg, if_pos, if_neg, if_true, if_false, Option.bind_some, Bool.false_eq_true, Bool.not_true, Bool.not_false, ↓reduceIte]
    rfl
theorem gcdPoly_l0 (h : IsF p g t) (n : Nat) : ∀ a b : List Int, pk p a = true → pk p b = true → b.length < n → Ev (fun k => impl_field_gcdPoly.l0 k a b p g t) (mon p (egcd p n a b)) := by
  have r := h.rng
  induction n with
  | zero => intro a b _ _ hn; omega
  | succ n ih =>
    intro a b ha hb hn
    have hla := pk_len ha
    have hlb := pk_len hb
    by_cases c : b.length = 0
    · obtain ⟨K, hK⟩ := monic_ok h ha
      refine ⟨K + 1, fun k hk => ?_⟩
      obtain ⟨k, rfl⟩ : ∃ m, k = m + 1 := ⟨k - 1, by omega⟩
      simp (disch := omega) only [impl_field_gcdPoly.l0, hK, egcd, w64, tmod_pos, tdiv_pos, ↓if_pos, ↓if_neg, if_pos, if_neg, if_true, if_false, Option.bind_some, Bool.false_eq_true, Bool.not_true, Bool.not_false, ↓reduceIte]
    · have hr := dm_rem (p := p) (by omega) (pk_els ha) (pk_top' ha) (b := b) (by omega)
      obtain ⟨K1, h1⟩ := divMod_ok h (a := a) (b := b) (by omega) (by omega) (pk_els ha) (pk_els hb)
      obtain ⟨K2, h2⟩ := ih b (rm p a b) hb (dm_rem_pk (by omega) (pk_els ha) (pk_top' ha) (by omega) hlb) (by unfold rm; omega)
      refine ⟨K1 + K2 + 1, fun k hk => ?_⟩
      obtain ⟨k, rfl⟩ : ∃ m, k = m + 1 := ⟨k - 1, by omega⟩
      have h3 := h2 k (by omega)
      dsimp only at h3
      simp (disch := omega) only [impl_field_gcdPoly.l0, h1, egcd, w64, tmod_pos, tdiv_pos, ↓if_pos, ↓if_neg, if_pos, if_neg, if_true, if_false, Option.bind_some, Bool.false_eq_true, Bool.not_true, Bool.not_false, ↓reduceIte]
      exact h3
theorem gcdPoly_ok (h : IsF p g t) {a b : List Int} (ha : pk p a = true) (hb : pk p b = true) : Ev (fun k => impl_field_gcdPoly.f k p g t a b) (gcd p a b) :=
  gcdPoly_l0 h (b.length + 1) a b ha hb (by omega)
theorem sGcd_l0 (h : FI f p g t) (n : Nat) : ∀ a b : List Int, pk p a = true → pk p b = true → b.length < n → Ev (fun k => spec_GcdPoly.l0 k f a b) (mon p (egcd p n a b)) := by
  have r := h.isF.rng
  induction n with
  | zero => intro a b _ _ hn; omega
  | succ n ih =>
    intro a b ha hb hn
    have hla := pk_len ha
    have hlb := pk_len hb
    by_cases c : b.length = 0
    · by_cases c2 : a.length = 0
      · refine ⟨1, fun k hk => ?_⟩
        obtain ⟨k, rfl⟩ : ∃ m, k = m + 1 := ⟨k - 1, by omega⟩
        simp (disch := omega) only [spec_GcdPoly.l0, egcd, mon, w64, tmod_pos, tdiv_pos, ↓if_pos, ↓if_neg, if_pos, if_neg, if_true, if_false, Option.bind_some, Bool.false_eq_true, Bool.not_true, Bool.not_false, ↓reduceIte]
      · have q1 := els_rd (pk_els ha) (i := ((a.length - 1 : Nat) : Int)) (by omega) (by omega)
        have n1 : rd a ((a.length - 1 : Nat) : Int) ≠ 0 := by
          rcases pk_top ha with c | c
          · omega
          · rw [show ((a.length : Int) - 1) = ((a.length - 1 : Nat) : Int) by omega] at c; exact c
        obtain ⟨K1, h1⟩ := Inverse_ok h (fun c => n1 ((h.isF.cg0 q1.1 q1.2).1 c))
        rw [Int.emod_eq_of_lt q1.1 q1.2] at h1
        obtain ⟨K2, h2⟩ := sScale_ok h ha (rd a ((a.length - 1 : Nat) : Int) ^ (p.toNat - 2) % p)
        refine ⟨K1 + K2 + 1, fun k hk => ?_⟩
        obtain ⟨k, rfl⟩ : ∃ m, k = m + 1 := ⟨k - 1, by omega⟩
        have e2 : ((a.length : Int) - 1) = ((a.length - 1 : Nat) : Int) := by omega
        simp (disch := omega) only [spec_GcdPoly.l0, e2, h1, h2, egcd, mon, w64, tmod_pos, tdiv_pos, ↓if_pos, ↓if_neg, if_pos, if_neg, if_true, if_false, Option.bind_some, Bool.false_eq_true, Bool.not_true, Bool.not_false, ↓reduceIte]
        rfl
    · have hr := dm_rem (p := p) (by omega) (pk_els ha) (pk_top' ha) (b := b) (by omega)
      obtain ⟨K1, h1⟩ := l03DivMod_ok h (a := a) (b := b) (by omega) (by omega) (pk_els ha) (pk_top' ha) hb
      obtain ⟨K2, h2⟩ := ih b (rm p a b) hb (dm_rem_pk (by omega) (pk_els ha) (pk_top' ha) (by omega) hlb) (by unfold rm; omega)
      refine ⟨K1 + K2 + 1, fun k hk => ?_⟩
      obtain ⟨k, rfl⟩ : ∃ m, k = m + 1 := ⟨k - 1, by omega⟩
      have h3 := h2 k (by omega)
      dsimp only at h3
      simp (disch := omega) only [spec_GcdPoly.l0, h1, egcd, w64, tmod_pos, tdiv_pos, ↓if_pos, ↓if_neg, if_pos, if_neg, if_true, if_false, Option.bind_some, Bool.false_eq_true, Bool.not_true, Bool.not_false, ↓reduceIte]
      exact h3
theorem sGcd_ok (h : FI f p g t) {a b : List Int} (ha : pk p a = true) (hb : pk p b = true) : Ev (fun k => spec_GcdPoly.f k f a b) (gcd p a b) := by
  have hla := pk_len ha
  have hlb := pk_len hb
  obtain ⟨K1, h1⟩ := PolyOk_ok h (a := a) (by omega)
  obtain ⟨K2, h2⟩ := PolyOk_ok h (a := b) (by omega)
  rw [ha] at h1
  rw [hb] at h2
  obtain ⟨K3, h3⟩ := l01Copy_ok (l := a) (by omega)
  obtain ⟨K4, h4⟩ := l01Copy_ok (l := b) (by omega)
  obtain ⟨K5, h5⟩ := sGcd_l0 h (b.length + 1) a b ha hb (by omega)
  refine ⟨K1 + K2 + K3 + K4 + K5 + 1, fun k hk => ?_⟩
  obtain ⟨k, rfl⟩ : ∃ m, k = m + 1 := ⟨k - 1, by omega⟩
  have h6 := h5 k (by omega)
  dsimp only at h6
  unfold spec_GcdPoly.f
  simp (disch := omega) only [h1, h2, spec_GcdPoly.j0, h3, h4, w64, tmod_pos, tdiv_pos, ↓if_pos, ↓if_neg, if_pos, if_neg, if_true, if_false, Option.bind_some, Bool.false_eq_true, Bool.not_true, Bool.not_false, ↓reduceIte]
  exact h6
theorem sGcd_no {a b : List Int} (h : (f < 0 ∨ 9 ≤ f) ∨ ∃ p g t, FI f p g t ∧ ¬ (pk p a = true ∧ pk p b = true)) (hla : a.length ≤ 1048576) (hlb : b.length ≤ 1048576) : Ev (fun k => spec_GcdPoly.f k f a b) [] := by
  obtain ⟨x, y, ⟨K1, h1⟩, ⟨K2, h2⟩, hxy⟩ := twoOk_no h hla hlb
  refine ⟨K1 + K2 + 1, fun k hk => ?_⟩
  obtain ⟨k, rfl⟩ : ∃ m, k = m + 1 := ⟨k - 1, by omega⟩
  unfold spec_GcdPoly.f
  rcases hxy with rfl | ⟨rfl, rfl⟩
  · simp (disch := omega) only [h1, spec_GcdPoly.j0, w64, tmod_pos, tdiv_pos, ↓if_pos, ↓if_neg, if_pos, if_neg, if_true, if_false, Option.bind_some, Bool.false_eq_true, Bool.not_true, Bool.not_false, ↓reduceIte]
  · simp (disch := omega) only [h1, h2, spec_GcdPoly.j0, w64, tmod_pos, tdiv_pos, ↓if_pos, ↓if_neg, if_pos, if_neg, if_true, if_false, Option.bind_some, Bool.false_eq_true, Bool.not_true, Bool.not_false, ↓reduceIte]

/-! ### SquareFree -/
theorem iSqf_ok (h : FI f p g t) {a : List Int} (ha : pk p a = true) : Ev (fun k => impl_SquareFree.f k f a) (((gcd p a (dv p a)).length : Int) == 1) := by
  have r := h.isF.rng
  have hla := pk_len ha
  obtain ⟨K1, h1⟩ := polyField1 h (a := a) (by omega)
  rw [if_pos ha] at h1
  obtain ⟨K2, h2⟩ := deriv_ok h.isF (l := a) (by omega) (pk_els ha)
  obtain ⟨K3, h3⟩ := gcdPoly_ok h.isF ha (dv_pk (by omega) ha)
  refine ⟨K1 + K2 + K3, fun k hk => ?_⟩
  unfold impl_SquareFree.f
  simp (disch := omega) only [h1, h2, h3, w64, tmod_pos, tdiv_pos, ↓if_pos, ↓if_neg, if_pos, if_neg, if_true, if_false, Option.bind_some, Bool.false_eq_true, Bool.not_true, Bool.not_false, ↓reduceIte]
theorem iSqf_no {l : List Int} (h : (f < 0 ∨ 9 ≤ f) ∨ ∃ p g t, FI f p g t ∧ pk p l = false) (hl : l.length ≤ 1048576) : Ev (fun k => impl_SquareFree.f k f l) false := by
  rcases h with h | ⟨p, g, t, h, hp⟩
  · obtain ⟨K1, h1⟩ := polyField_no h [l]
    refine ⟨K1, fun k hk => ?_⟩
    unfold impl_SquareFree.f
    simp (disch := omega) only [h1, w64, tmod_pos, tdiv_pos, ↓if_pos, ↓if_neg, if_pos, if_neg, if_true, if_false, Option.bind_some, Bool.false_eq_true, Bool.not_true, Bool.not_false, ↓reduceIte]
  · obtain ⟨K1, h1⟩ := polyField1 h (a := l) hl
    rw [if_neg (by simp [hp])] at h1
    refine ⟨K1, fun k hk => ?_⟩
    unfold impl_SquareFree.f
    simp (disch := omega) only [h1, w64, tmod_pos, tdiv_pos, ↓if_pos, ↓if_neg, if_pos, if_neg, if_true, if_false, Option.bind_some, Bool.false_eq_true, Bool.not_true, Bool.not_false, ↓reduceIte]
theorem sSqf_ok (h : FI f p g t) {a : List Int} (ha : pk p a = true) : Ev (fun k => spec_SquareFree.f k f a) (((gcd p a (dv p a)).length : Int) == 1) := by
  have r := h.isF.rng
  have hla := pk_len ha
  obtain ⟨K1, h1⟩ := PolyOk_ok h (a := a) (by omega)
  rw [ha] at h1
  by_cases c : a.length = 0
  · obtain rfl : a = [] := List.eq_nil_of_length_eq_zero c
    have e : (gcd p [] (dv p [])) = [] := rfl
    refine ⟨K1 + 1, fun k hk => ?_⟩
    obtain ⟨k, rfl⟩ : ∃ m, k = m + 1 := ⟨k - 1, by omega⟩
    unfold spec_SquareFree.f
    rw [e]
    simp (disch := omega) only [h1, spec_SquareFree.j0, w64, tmod_pos, tdiv_pos, ↓if_pos, ↓if_neg, if_pos, if_neg, if_true, if_false, Option.bind_some, Bool.false_eq_true, Bool.not_true, Bool.not_false, ↓reduceIte]
    rfl
  · obtain ⟨K2, h2⟩ := sDeriv_ok h ha
    obtain ⟨K3, h3⟩ := sGcd_ok h ha (dv_pk (by omega) ha)
    have e : ((a.length : Int) == 0) = false := beq_eq_false_iff_ne.2 (by omega)
    refine ⟨K1 + K2 + K3 + 1, fun k hk => ?_⟩
    obtain ⟨k, rfl⟩ : ∃ m, k = m + 1 := ⟨k - 1, by omega⟩
    unfold spec_SquareFree.f
    simp (disch := omega) only [h1, h2, h3, e, spec_SquareFree.j0, w64, tmod_pos, tdiv_pos, ↓if_pos, ↓if_neg, if_pos, if_neg, if_true, if_false, Option.bind_some, Bool.false_eq_true, Bool.not_true, Bool.not_false, ↓reduceIte]
theorem sSqf_no {l : List Int} (h : (f < 0 ∨ 9 ≤ f) ∨ ∃ p g t, FI f p g t ∧ pk p l = false) (hl : l.length ≤ 1048576) : Ev (fun k => spec_SquareFree.f k f l) false := by
  rcases h with h | ⟨p, g, t, h, hp⟩
  · obtain ⟨K1, h1⟩ := PolyOk_no h l
    refine ⟨K1 + 1, fun k hk => ?_⟩
    obtain ⟨k, rfl⟩ : ∃ m, k = m + 1 := ⟨k - 1, by omega⟩
    unfold spec_SquareFree.f
    simp (disch := omega) only [h1, spec_SquareFree.j0, w64, tmod_pos, tdiv_pos, ↓if_pos, ↓if_neg, if_pos, if_neg, if_true, if_false, Option.bind_some, Bool.false_eq_true, Bool.not_true, Bool.not_false, ↓reduceIte]
  · obtain ⟨K1, h1⟩ := PolyOk_ok h (a := l) hl
    rw [hp] at h1
    refine ⟨K1 + 1, fun k hk => ?_⟩
    obtain ⟨k, rfl⟩ : ∃ m, k = m + 1 := ⟨k - 1, by omega⟩
    unfold spec_SquareFree.f
    simp (disch := omega) only [h1, spec_SquareFree.j0, w64, tmod_pos, tdiv_pos, ↓if_pos, ↓if_neg, if_pos, if_neg, if_true, if_false, Option.bind_some, Bool.false_eq_true, Bool.not_true, Bool.not_false, ↓reduceIte]

/-! ### PowMod -/
/-- Squares and products, each taken modulo b. -/
def powm (p : Int) (b : List Int) : Nat → Nat → List Int → List Int → List Int
  | 0, _, o, _ => o
  | n + 1, e, o, x => if e = 0 then o else powm p b n (e / 2) (if e % 2 = 1 then rm p (ml p o x) b else o) (rm p (ml p x x) b)
/-- What is kept while the power is made. -/
def Rd (p : Int) (b x : List Int) : Prop := x.length < b.length ∧ els p x = true ∧ top x
theorem rm_Rd {p : Int} (hp : 0 < p) {b : List Int} (h0 : 1 ≤ b.length) {x : List Int} (ex : els p x = true) (tx : top x) : Rd p b (rm p x b) := dm_rem hp ex tx h0
theorem rm_ml {p : Int} (hp : 0 < p) {b : List Int} (h0 : 1 ≤ b.length) (x y : List Int) : Rd p b (rm p (ml p x y) b) := rm_Rd hp h0 (ml_els hp x y) (ml_top p x y)
theorem powm_Rd {p : Int} (hp : 0 < p) {b : List Int} (h0 : 1 ≤ b.length) (n : Nat) : ∀ e o x, Rd p b o → Rd p b (powm p b n e o x) := by
  induction n with
  | zero => intro e o x ho; exact ho
  | succ n ih =>
    intro e o x ho
    rw [powm]
    split
    · exact ho
    · refine ih _ _ _ ?_
      split
      · exact rm_ml hp h0 _ _
      · exact ho
/-- What PowMod answers for two polynomials. -/
def pmo (p : Int) (a : List Int) (e : Int) (b : List Int) : List Int × Bool :=
  if b.length = 0 ∨ e < 0 ∨ 1000000 < e then ([], false) else (powm p b (e.toNat + 1) e.toNat (rm p [1] b) (rm p a b), true)
theorem one_top : top [1] := .inr (by decide)
theorem one_els {p : Int} (hp : 1 < p) : els p [1] = true := by simp [els, hp]
theorem pmo_len {p : Int} (hp : 1 < p) (a : List Int) (e : Int) {b : List Int} (hb : b.length ≤ 400) : (pmo p a e b).1.length ≤ 1048576 := by
  unfold pmo
  split
  · simp
  · have := (powm_Rd (by omega) (b := b) (by omega) (e.toNat + 1) e.toNat (rm p [1] b) (rm p a b) (rm_Rd (by omega) (by omega) (one_els hp) one_top)).1
    show (powm _ _ _ _ _ _).length ≤ _
    omega
end

end Go.Proofs.Ytmkafmgbmbgogaa.M
