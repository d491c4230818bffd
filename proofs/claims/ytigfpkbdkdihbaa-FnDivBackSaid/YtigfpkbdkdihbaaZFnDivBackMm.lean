import Derived.Test.YtigfpkbdkdihbaaZFnDivBackG
/- What MulPoly and Compose come to, of the program and of the reference. -/
import Derived.Test.YtigfpkbdkdihbaaZFnDivBackMa
import Derived.Test.YtigfpkbdkdihbaaZFnDivBackMb
import Derived.Test.YtigfpkbdkdihbaaZFnDivBackMc
import Derived.Test.YtigfpkbdkdihbaaZFnDivBackMd
import Derived.Test.YtigfpkbdkdihbaaZFnDivBackMh
import Derived.Test.YtigfpkbdkdihbaaZFnDivBackMr
import Derived.Test.YtigfpkbdkdihbaaZFnDivBackMx
import Derived.Test.YtigfpkbdkdihbaaZFnDivBackMy
import Derived.Test.YtigfpkbdkdihbaaZFnDivBackWWords
import Derived.Test.YtigfpkbdkdihbaaZFnDivBackWMore
import Derived.Test.YtigfpkbdkdihbaaZFnDivBack3
import Derived.Test.YtigfpkbdkdihbaaZFnDivBack1
import Derived.Test.YtigfpkbdkdihbaaZFnDivBack5
import Derived.Test.YtigfpkbdkdihbaaZFnDivBack0
namespace Go.Proofs.Ytigfpkbdkdihbaa.M
open Go.RowKit Go.Proofs.Ytigfpkbdkdihbaa.P Go.Proofs.YtigfpkbdkdihbaaW.PrintWords Go.Proofs.YtigfpkbdkdihbaaW.PrintLast Go.Proofs.YtigfpkbdkdihbaaW.PrintMore
set_option linter.unusedVariables false
set_option linter.unusedSimpArgs false

/-- The first i terms of the product's coefficient q. -/
def cs (p : Int) (a b : List Int) (q : Nat) : Nat → Int
  | 0 => 0
  | i + 1 => if i ≤ q then (cs p a b q i + rd a (i : Int) * rd b ((q - i : Nat) : Int)) % p else cs p a b q i
theorem cs_rng {p : Int} (hp : 0 < p) (a b : List Int) (q i : Nat) : 0 ≤ cs p a b q i ∧ cs p a b q i < p := by
  induction i with
  | zero => exact ⟨Int.le_refl _, hp⟩
  | succ n ih => unfold cs; split; exact emod_rng hp _; exact ih
/-- A term with nothing of b in it adds nothing. -/
theorem cs_skip {p : Int} (hp : 0 < p) {a b : List Int} {q i : Nat} (h : q < i ∨ b.length ≤ q - i) : cs p a b q (i + 1) = cs p a b q i := by
  have r := cs_rng hp a b q i
  rw [cs]
  split
  · rw [rd_ge (l := b) (by omega), Int.mul_zero, Int.add_zero, Int.emod_eq_of_lt r.1 r.2]
  · rfl
theorem cs_stop {p : Int} (hp : 0 < p) {a b : List Int} {q i : Nat} (d : Nat) (h : q < i) : cs p a b q (i + d) = cs p a b q i := by
  induction d with
  | zero => rfl
  | succ d ih => rw [show i + (d + 1) = (i + d) + 1 by omega, cs_skip hp (.inl (by omega)), ih]
/-- The product. -/
def ml (p : Int) (a b : List Int) : List Int := if a.length = 0 ∨ b.length = 0 then [] else cut (mk (a.length + b.length - 1) fun q => cs p a b q a.length)
theorem ml_els {p : Int} (hp : 0 < p) (a b : List Int) : els p (ml p a b) = true := by
  unfold ml; split
  · rfl
  · exact cut_els (mk_els fun i hi => cs_rng hp _ _ _ _)
theorem ml_top (p : Int) (a b : List Int) : top (ml p a b) := by
  unfold ml; split
  · exact .inl rfl
  · exact cut_top _
theorem ml_len (p : Int) (a b : List Int) : (ml p a b).length ≤ a.length + b.length - 1 := by
  unfold ml; split
  · simp
  · have := cut_len (mk (a.length + b.length - 1) fun q => cs p a b q a.length)
    rw [mk_length] at this; exact this
theorem cs_end {p : Int} (hp : 0 < p) {a b : List Int} {q : Nat} (h : a.length = 0 ∨ b.length = 0 ∨ a.length + b.length - 1 ≤ q) (i : Nat) : i ≤ a.length → cs p a b q i = 0 := by
  induction i with
  | zero => intro _; rfl
  | succ i ih =>
    intro hi
    rw [cs_skip hp (by omega), ih (by omega)]
theorem ml_rd {p : Int} (hp : 0 < p) (a b : List Int) (q : Nat) : rd (ml p a b) (q : Int) = cs p a b q a.length := by
  unfold ml
  split
  · rw [rd_nil, cs_end hp (by omega) _ (Nat.le_refl _)]
  · rw [cut_rd, mk_rd]
    split
    · rfl
    · rw [cs_end hp (by omega) _ (Nat.le_refl _)]
section
variable {f p g t : Int}
/-- What the list holds at row i, column j. -/
def mlI (p : Int) (a b x : List Int) (i j : Nat) : Prop := x.length = a.length + b.length - 1 ∧ ∀ q : Nat, q < a.length + b.length - 1 → rd x (q : Int) = if i ≤ q ∧ q - i < j then cs p a b q (i + 1) else cs p a b q i
theorem mulPoly_l1 (h : IsF p g t) (a b R : List Int) (hla : a.length ≤ 4096) (hlb : b.length ≤ 4096) (ha : els p a = true) (hb : els p b = true) (i m : Nat) (hi : i < a.length)
    (F : ∀ (k : Nat) (y : List Int), m ≤ k → mlI p a b y i b.length → impl_field_mulPoly.l0 k b y a a.length ((i + 1 : Nat) : Int) p g t = some R) (d : Nat) :
    ∀ (k j : Nat) (x : List Int), m + d < k → b.length - j = d → j ≤ b.length → mlI p a b x i j → impl_field_mulPoly.l1 k b x i (rd a (i : Int)) a a.length i b b.length j p g t = some R := by
  have r := h.rng
  induction d with
  | zero =>
    intro k j x hk hd hj hx
    obtain ⟨k, rfl⟩ : ∃ m, k = m + 1 := ⟨k - 1, by omega⟩
    obtain rfl : j = b.length := by omega
    simp (disch := omega) only [impl_field_mulPoly.l1, w64, tmod_pos, tdiv_pos, ↓if_pos, ↓if_neg, if_pos, if_neg, if_true, if_false, Option.bind_some, Bool.false_eq_true, Bool.not_true, Bool.not_false, ↓reduceIte]
    exact F k x (by omega) hx
  | succ d ih =>
    intro k j x hk hd hj hx
    obtain ⟨k, rfl⟩ : ∃ m, k = m + 1 := ⟨k - 1, by omega⟩
    have q1 := els_rd ha (i := (i : Int)) (by omega) (by omega)
    have q2 := els_rd hb (i := (j : Int)) (by omega) (by omega)
    have q3 := mul_rng (p := p) (by omega) q1.1 q1.2 q2.1 q2.2
    have q4 := cs_rng (p := p) (by omega) a b (i + j) i
    have hxl := hx.1
    have e2 : rd x ((i + j : Nat) : Int) = cs p a b (i + j) i := by rw [hx.2 _ (by omega), if_neg (by omega)]
    have hv : (cs p a b (i + j) i + rd a (i : Int) * rd b (j : Int)) % p = cs p a b (i + j) (i + 1) := by
      rw [cs, if_pos (by omega), show i + j - i = j by omega]
    have st : mlI p a b (x.set (i + j) ((cs p a b (i + j) i + rd a (i : Int) * rd b (j : Int)) % p)) i (j + 1) := by
      refine ⟨by rw [List.length_set, hxl], fun q hq => ?_⟩
      rw [rd_set _ _ _ _ (by omega)]
      by_cases c : i + j = q
      · subst c; rw [if_pos rfl, if_pos (by omega), hv]
      · rw [if_neg c, hx.2 q hq]
        by_cases c2 : i ≤ q ∧ q - i < j
        · rw [if_pos c2, if_pos (by omega)]
        · rw [if_neg c2, if_neg (by omega)]
    have e5 := ih k (j + 1) _ (by omega) (by omega) (by omega) st
    rw [show ((i + j : Nat) : Int) = (i : Int) + j by omega] at e2
    simp (disch := omega) only [impl_field_mulPoly.l1, w64, if_pos, if_neg, e2, tmod_pos]
    rw [show ((i : Int) + j).toNat = i + j by omega]
    exact e5
theorem mulPoly_l0 (h : IsF p g t) (a b : List Int) (h0 : ¬ (a.length = 0 ∨ b.length = 0)) (hla : a.length ≤ 4096) (hlb : b.length ≤ 4096) (ha : els p a = true) (hb : els p b = true) (d : Nat) :
    ∃ K, ∀ (k i : Nat) (x : List Int), K < k → a.length - i = d → i ≤ a.length → mlI p a b x i 0 → impl_field_mulPoly.l0 k b x a a.length i p g t = some (ml p a b) := by
  have r := h.rng
  induction d with
  | zero =>
    obtain ⟨K, hK⟩ := trimmed_ok (l := mk (a.length + b.length - 1) fun q => cs p a b q a.length) (by rw [mk_length]; omega)
    refine ⟨K, fun k i x hk hd hi hx => ?_⟩
    obtain ⟨k, rfl⟩ : ∃ m, k = m + 1 := ⟨k - 1, by omega⟩
    obtain rfl : i = a.length := by omega
    have e : x = mk (a.length + b.length - 1) fun q => cs p a b q a.length := eq_mk' hx.1 fun q hq => by rw [hx.2 q hq, if_neg (by omega)]
    simp (disch := omega) only [impl_field_mulPoly.l0, e, hK, w64, tmod_pos, tdiv_pos, ↓if_pos, ↓if_neg, if_pos, if_neg, if_true, if_false, Option.bind_some, Bool.false_eq_true, Bool.not_true, Bool.not_false, ↓reduceIte]
    unfold ml
    rw [if_neg h0]
  | succ d ih =>
    obtain ⟨K, ih⟩ := ih
    refine ⟨K + 5000, fun k i x hk hd hi hx => ?_⟩
    obtain ⟨k, rfl⟩ : ∃ m, k = m + 1 := ⟨k - 1, by omega⟩
    simp (disch := omega) only [impl_field_mulPoly.l0, w64, tmod_pos, tdiv_pos, ↓if_pos, ↓if_neg, if_pos, if_neg, if_true, if_false, Option.bind_some, Bool.false_eq_true, Bool.not_true, Bool.not_false, ↓reduceIte]
    refine mulPoly_l1 h a b _ hla hlb ha hb i (K + 1) (by omega) (fun k' y hk' hy => ?_) b.length k 0 x (by omega) (by omega) (by omega) hx
    refine ih k' (i + 1) y (by omega) (by omega) (by omega) ⟨hy.1, fun q hq => ?_⟩
    rw [hy.2 q hq, if_neg (show ¬ (i + 1 ≤ q ∧ q - (i + 1) < 0) by omega)]
    by_cases c : i ≤ q ∧ q - i < b.length
    · rw [if_pos c]
    · rw [if_neg c, cs_skip (by omega) (by omega)]
theorem mulPoly_ok (h : IsF p g t) {a b : List Int} (hla : a.length ≤ 4096) (hlb : b.length ≤ 4096) (ha : els p a = true) (hb : els p b = true) : Ev (fun k => impl_field_mulPoly.f k p g t a b) (ml p a b) := by
  by_cases h0 : a.length = 0 ∨ b.length = 0
  · refine ⟨1, fun k hk => ?_⟩
    obtain ⟨k, rfl⟩ : ∃ m, k = m + 1 := ⟨k - 1, by omega⟩
    unfold impl_field_mulPoly.f ml
    rw [if_pos h0]
    by_cases ha0 : a.length = 0
    · simp (disch := omega) only [impl_field_mulPoly.j0, w64, tmod_pos, tdiv_pos, ↓if_pos, ↓if_neg, if_pos, if_neg, if_true, if_false, Option.bind_some, Bool.false_eq_true, Bool.not_true, Bool.not_false, ↓reduceIte]
    · have e : ((b.length : Int) == 0) = true := beq_iff_eq.2 (by omega)
      simp (disch := omega) only [impl_field_mulPoly.j0, e, w64, tmod_pos, tdiv_pos, ↓if_pos, ↓if_neg, if_pos, if_neg, if_true, if_false, Option.bind_some, Bool.false_eq_true, Bool.not_true, Bool.not_false, ↓reduceIte]
  · obtain ⟨K2, h2⟩ := mulPoly_l0 h a b h0 hla hlb ha hb a.length
    refine ⟨K2 + 2, fun k hk => ?_⟩
    obtain ⟨k, rfl⟩ : ∃ m, k = m + 1 := ⟨k - 1, by omega⟩
    have e : ((b.length : Int) == 0) = false := beq_eq_false_iff_ne.2 (by omega)
    have e2 : ((a.length : Int) + b.length - 1).toNat = a.length + b.length - 1 := by omega
    unfold impl_field_mulPoly.f
    simp (disch := omega) only [impl_field_mulPoly.j0, e, e2, w64, tmod_pos, tdiv_pos, ↓if_pos, ↓if_neg, if_pos, if_neg, if_true, if_false, Option.bind_some, Bool.false_eq_true, Bool.not_true, Bool.not_false, ↓reduceIte]
    refine h2 k 0 _ (by omega) (by omega) (by omega) ⟨List.length_replicate, fun q hq => ?_⟩
    rw [rd_replicate, if_neg (by omega)]
    rfl
theorem l03Mul_l1 (h : IsF p g t) (a b R : List Int) (hla : a.length ≤ 4096) (hlb : b.length ≤ 4096) (ha : els p a = true) (hb : els p b = true) (q m : Nat) (hq : q < a.length + b.length - 1)
    (F : ∀ (k : Nat), m ≤ k → spec_l03Mul.l0 k a b p (mk (q + 1) fun q => cs p a b q a.length) ((q + 1 : Nat) : Int) = some R) (d : Nat) :
    ∀ (k i : Nat), m + 2 * d + 2 < k → a.length - i = d → i ≤ a.length → spec_l03Mul.l1 k a b p (mk q fun q => cs p a b q a.length) q (cs p a b q i) i = some R := by
  have r := h.rng
  have hlen : (mk q fun q => cs p a b q a.length).length = q := mk_length _ _
  induction d with
  | zero =>
    intro k i hk hd hi
    obtain ⟨k, rfl⟩ : ∃ m, k = m + 2 := ⟨k - 2, by omega⟩
    obtain rfl : i = a.length := by omega
    have e := F k (by omega)
    rw [mk_succ] at e
    by_cases c : a.length ≤ q
    · have hd2 : decide ((a.length : Int) < (a.length : Int)) = false := decide_eq_false (by omega)
      simp (disch := omega) only [spec_l03Mul.l1, hd2, spec_l03Mul.j3, w64, tmod_pos, tdiv_pos, ↓if_pos, ↓if_neg, if_pos, if_neg, if_true, if_false, Option.bind_some, Bool.false_eq_true, Bool.not_true, Bool.not_false, ↓reduceIte]
      exact e
    · simp (disch := omega) only [spec_l03Mul.l1, spec_l03Mul.j3, w64, tmod_pos, tdiv_pos, ↓if_pos, ↓if_neg, if_pos, if_neg, if_true, if_false, Option.bind_some, Bool.false_eq_true, Bool.not_true, Bool.not_false, ↓reduceIte]
      exact e
  | succ d ih =>
    intro k i hk hd hi
    obtain ⟨k, rfl⟩ : ∃ m, k = m + 2 := ⟨k - 2, by omega⟩
    by_cases c : i ≤ q
    · have hd2 : decide ((i : Int) < (a.length : Int)) = true := decide_eq_true (by omega)
      have e5 := ih k (i + 1) (by omega) (by omega) (by omega)
      by_cases c2 : q - i < b.length
      · have q1 := els_rd ha (i := (i : Int)) (by omega) (by omega)
        have q2 := els_rd hb (i := ((q - i : Nat) : Int)) (by omega) (by omega)
        have q3 := mul_rng (p := p) (by omega) q1.1 q1.2 q2.1 q2.2
        have q4 := cs_rng (p := p) (by omega) a b q i
        rw [cs, if_pos c] at e5
        have ec : ((q - i : Nat) : Int) = (q : Int) - i := by omega
        rw [ec] at q3 e5
        simp (disch := omega) only [spec_l03Mul.l1, hd2, spec_l03Mul.j3, w64, tmod_pos, tdiv_pos, ↓if_pos, ↓if_neg, if_pos, if_neg, if_true, if_false, Option.bind_some, Bool.false_eq_true, Bool.not_true, Bool.not_false, ↓reduceIte]
        exact e5
      · rw [cs_skip (by omega) (by omega)] at e5
        simp (disch := omega) only [spec_l03Mul.l1, hd2, spec_l03Mul.j3, w64, tmod_pos, tdiv_pos, ↓if_pos, ↓if_neg, if_pos, if_neg, if_true, if_false, Option.bind_some, Bool.false_eq_true, Bool.not_true, Bool.not_false, ↓reduceIte]
        exact e5
    · have e := F k (by omega)
      rw [mk_succ, show a.length = i + (a.length - i) by omega, cs_stop (by omega) _ (show q < i by omega), ← show a.length = i + (a.length - i) by omega] at e
      simp (disch := omega) only [spec_l03Mul.l1, spec_l03Mul.j3, w64, tmod_pos, tdiv_pos, ↓if_pos, ↓if_neg, if_pos, if_neg, if_true, if_false, Option.bind_some, Bool.false_eq_true, Bool.not_true, Bool.not_false, ↓reduceIte]
      exact e
theorem l03Mul_l0 (h : IsF p g t) (a b : List Int) (h0 : ¬ (a.length = 0 ∨ b.length = 0)) (hla : a.length ≤ 4096) (hlb : b.length ≤ 4096) (ha : els p a = true) (hb : els p b = true) (d : Nat) :
    ∃ K, ∀ (k q : Nat), K < k → a.length + b.length - 1 - q = d → q ≤ a.length + b.length - 1 → spec_l03Mul.l0 k a b p (mk q fun q => cs p a b q a.length) q = some (ml p a b) := by
  have r := h.rng
  induction d with
  | zero =>
    obtain ⟨K, hK⟩ := l03Cut_ok (l := mk (a.length + b.length - 1) fun q => cs p a b q a.length) (by rw [mk_length]; omega)
    refine ⟨K, fun k q hk hd hq => ?_⟩
    obtain ⟨k, rfl⟩ : ∃ m, k = m + 1 := ⟨k - 1, by omega⟩
    obtain rfl : q = a.length + b.length - 1 := by omega
    simp (disch := omega) only [spec_l03Mul.l0, hK, w64, tmod_pos, tdiv_pos, ↓if_pos, ↓if_neg, if_pos, if_neg, if_true, if_false, Option.bind_some, Bool.false_eq_true, Bool.not_true, Bool.not_false, ↓reduceIte]
    unfold ml
    rw [if_neg h0]
  | succ d ih =>
    obtain ⟨K, ih⟩ := ih
    refine ⟨K + 9000, fun k q hk hd hq => ?_⟩
    obtain ⟨k, rfl⟩ : ∃ m, k = m + 1 := ⟨k - 1, by omega⟩
    simp (disch := omega) only [spec_l03Mul.l0, w64, tmod_pos, tdiv_pos, ↓if_pos, ↓if_neg, if_pos, if_neg, if_true, if_false, Option.bind_some, Bool.false_eq_true, Bool.not_true, Bool.not_false, ↓reduceIte]
    exact l03Mul_l1 h a b _ hla hlb ha hb q (K + 1) (by omega) (fun k' hk' => ih k' (q + 1) (by omega) (by omega) (by omega)) a.length k 0 (by omega) (by omega) (by omega)
theorem l03Mul_ok (h : FI f p g t) {a b : List Int} (hla : a.length ≤ 4096) (hlb : b.length ≤ 4096) (ha : els p a = true) (hb : els p b = true) : Ev (fun k => spec_l03Mul.f k f a b) (ml p a b) := by
  by_cases h0 : a.length = 0 ∨ b.length = 0
  · refine ⟨1, fun k hk => ?_⟩
    obtain ⟨k, rfl⟩ : ∃ m, k = m + 1 := ⟨k - 1, by omega⟩
    unfold spec_l03Mul.f ml
    rw [if_pos h0]
    by_cases ha0 : a.length = 0
    · simp (disch := omega) only [Modulus_ok h, spec_l03Mul.j0, w64, tmod_pos, tdiv_pos, ↓if_pos, ↓if_neg, if_pos, if_neg, if_true, if_false, Option.bind_some, Bool.false_eq_true, Bool.not_true, Bool.not_false, ↓reduceIte]
    · have e : ((b.length : Int) == 0) = true := beq_iff_eq.2 (by omega)
      simp (disch := omega) only [Modulus_ok h, spec_l03Mul.j0, e, w64, tmod_pos, tdiv_pos, ↓if_pos, ↓if_neg, if_pos, if_neg, if_true, if_false, Option.bind_some, Bool.false_eq_true, Bool.not_true, Bool.not_false, ↓reduceIte]
  · obtain ⟨K2, h2⟩ := l03Mul_l0 h.isF a b h0 hla hlb ha hb (a.length + b.length - 1)
    refine ⟨K2 + 2, fun k hk => ?_⟩
    obtain ⟨k, rfl⟩ : ∃ m, k = m + 1 := ⟨k - 1, by omega⟩
    have e : ((b.length : Int) == 0) = false := beq_eq_false_iff_ne.2 (by omega)
    unfold spec_l03Mul.f
    simp (disch := omega) only [Modulus_ok h, spec_l03Mul.j0, e, w64, tmod_pos, tdiv_pos, ↓if_pos, ↓if_neg, if_pos, if_neg, if_true, if_false, Option.bind_some, Bool.false_eq_true, Bool.not_true, Bool.not_false, ↓reduceIte]
    exact h2 k 0 (by omega) (by omega) (by omega)
/-- What MulPoly answers for two polynomials. -/
def mp (p : Int) (a b : List Int) : List Int × Bool := if 400 < (ml p a b).length then ([], false) else (ml p a b, true)
theorem iMulP_ok (h : FI f p g t) {a b : List Int} (ha : pk p a = true) (hb : pk p b = true) : Ev (fun k => impl_MulPoly.f k f a b) (mp p a b) := by
  have hla := pk_len ha
  have hlb := pk_len hb
  obtain ⟨K1, h1⟩ := polyField2 h (a := a) (b := b) (by omega) (by omega)
  obtain ⟨K2, h2⟩ := mulPoly_ok h.isF (a := a) (b := b) (by omega) (by omega) (pk_els ha) (pk_els hb)
  rw [if_pos ⟨ha, hb⟩] at h1
  refine ⟨K1 + K2, fun k hk => ?_⟩
  unfold impl_MulPoly.f mp
  by_cases c : 400 < (ml p a b).length
  · simp (disch := omega) only [h1, h2, w64, tmod_pos, tdiv_pos, ↓if_pos, ↓if_neg, if_pos, if_neg, if_true, if_false, Option.bind_some, Bool.false_eq_true, Bool.not_true, Bool.not_false, ↓reduceIte]
  · simp (disch := omega) only [h1, h2, w64, tmod_pos, tdiv_pos, ↓if_pos, ↓if_neg, if_pos, if_neg, if_true, if_false, Option.bind_some, Bool.false_eq_true, Bool.not_true, Bool.not_false, ↓reduceIte]
end

end Go.Proofs.Ytigfpkbdkdihbaa.M
