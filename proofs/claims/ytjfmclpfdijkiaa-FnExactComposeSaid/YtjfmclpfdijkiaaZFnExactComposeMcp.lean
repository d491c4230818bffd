import Derived.Test.YtjfmclpfdijkiaaG0
/- What Compose comes to, of the program and of the reference. -/
import Derived.Test.YtjfmclpfdijkiaaZFnExactComposeMa
import Derived.Test.YtjfmclpfdijkiaaZFnExactComposeMb
import Derived.Test.YtjfmclpfdijkiaaZFnExactComposeMc
import Derived.Test.YtjfmclpfdijkiaaZFnExactComposeMd
import Derived.Test.YtjfmclpfdijkiaaZFnExactComposeMh
import Derived.Test.YtjfmclpfdijkiaaZFnExactComposeMr
import Derived.Test.YtjfmclpfdijkiaaZFnExactComposeMx
import Derived.Test.YtjfmclpfdijkiaaZFnExactComposeMy
import Derived.Test.YtjfmclpfdijkiaaZFnExactComposeMm
import Derived.Test.YtjfmclpfdijkiaaWWords
import Derived.Test.YtjfmclpfdijkiaaWMore
import Derived.Test.YtjfmclpfdijkiaaZFnExactCompose3
import Derived.Test.YtjfmclpfdijkiaaZFnExactCompose0
import Derived.Test.YtjfmclpfdijkiaaZFnExactCompose1
import Derived.Test.YtjfmclpfdijkiaaZFnExactCompose2
import Derived.Test.YtjfmclpfdijkiaaZFnExactCompose5
import Derived.Test.YtjfmclpfdijkiaaZFnExactCompose4
namespace Go.Proofs.Ytjfmclpfdijkiaa.M
open Go.RowKit Go.Proofs.Ytjfmclpfdijkiaa.P Go.Proofs.YtjfmclpfdijkiaaW.PrintWords Go.Proofs.YtjfmclpfdijkiaaW.PrintLast Go.Proofs.YtjfmclpfdijkiaaW.PrintMore
set_option linter.unusedVariables false
set_option linter.unusedSimpArgs false

/-- Horner's way with a polynomial: the first n coefficients from above. -/
def cm (p : Int) (a b : List Int) : Nat → List Int
  | 0 => []
  | n + 1 => ad p (ml p (cm p a b n) b) (cut [rd a ((a.length - 1 - n : Nat) : Int)])
theorem cm_top (p : Int) (a b : List Int) (n : Nat) : top (cm p a b n) := by
  cases n with
  | zero => exact .inl rfl
  | succ n => exact ad_top _ _ _
theorem cm_els {p : Int} (hp : 0 < p) (a b : List Int) (n : Nat) : els p (cm p a b n) = true := by
  cases n with
  | zero => rfl
  | succ n => exact ad_els hp _ _
theorem cut1_len (x : Int) : (cut [x]).length ≤ 1 := cut_len [x]
/-- The multiplied one is short, too. -/
theorem cm_len (p : Int) (a b : List Int) (n : Nat) : (cm p a b n).length ≤ (n - 1) * (b.length - 1) + 1 ∧ (ml p (cm p a b n) b).length ≤ n * (b.length - 1) + 1 := by
  induction n with
  | zero => 
    refine ⟨by simp [cm], ?_⟩
    have : (ml p (cm p a b 0) b).length = 0 := by unfold ml; rw [if_pos (.inl rfl)]; rfl
    omega
  | succ n ih =>
    have h1 : (cm p a b (n + 1)).length ≤ n * (b.length - 1) + 1 := by
      have := ad_len p (ml p (cm p a b n) b) (cut [rd a ((a.length - 1 - n : Nat) : Int)])
      have := cut1_len (rd a ((a.length - 1 - n : Nat) : Int))
      rw [cm]
      omega
    refine ⟨h1, ?_⟩
    have h2 := ml_len p (cm p a b (n + 1)) b
    by_cases hb : b.length = 0
    · have : (ml p (cm p a b (n + 1)) b).length = 0 := by unfold ml; rw [if_pos (.inr hb)]; rfl
      omega
    · have e : (n + 1) * (b.length - 1) = n * (b.length - 1) + (b.length - 1) := by rw [Nat.add_mul, Nat.one_mul]
      omega
/-- The composition would be too long. -/
def cbig (a b : List Int) : Prop := 1 < a.length ∧ 1 < b.length ∧ 400 ≤ (a.length - 1) * (b.length - 1)
theorem cm_short {p : Int} {a b : List Int} (h : ¬ cbig a b) {n : Nat} (hn : n < a.length) : (ml p (cm p a b n) b).length ≤ 400 ∧ (cm p a b n).length ≤ 400 := by
  have h1 := cm_len p a b n
  have e1 : n * (b.length - 1) ≤ (a.length - 1) * (b.length - 1) := Nat.mul_le_mul_right _ (by omega)
  have e2 : (n - 1) * (b.length - 1) ≤ (a.length - 1) * (b.length - 1) := Nat.mul_le_mul_right _ (by omega)
  have e3 : (a.length - 1) * (b.length - 1) ≤ 399 := by
    unfold cbig at h
    by_cases ca : 1 < a.length
    · by_cases cb : 1 < b.length
      · omega
      · rw [show b.length - 1 = 0 by omega, Nat.mul_zero]; omega
    · rw [show a.length - 1 = 0 by omega, Nat.zero_mul]; omega
  omega
/-- What Compose answers for two polynomials. -/
noncomputable def cpo (p : Int) (a b : List Int) : List Int × Bool := open Classical in if cbig a b then ([], false) else (cm p a b a.length, true)
theorem cpo_len {p : Int} {a : List Int} (b : List Int) (ha : a.length ≤ 400) (hb : b.length ≤ 400) : (cpo p a b).1.length ≤ 1048576 := by
  unfold cpo
  split
  · simp
  · show (cm p a b a.length).length ≤ _
    have h1 := (cm_len p a b a.length).1
    have : (a.length - 1) * (b.length - 1) ≤ 400 * 400 := Nat.mul_le_mul (by omega) (by omega)
    omega
section
variable {f p g t : Int}
theorem iComp_l0 (h : IsF p g t) (a b : List Int) (ha : pk p a = true) (hb : pk p b = true) (hc : ¬ cbig a b) (d : Nat) :
    ∃ K, ∀ (k n : Nat), K < k → n + d = a.length → impl_Compose.l0 k a b (cm p a b n) ((d : Int) - 1) p g t = some (cm p a b a.length, true) := by
  have r := h.rng
  have hla := pk_len ha
  have hlb := pk_len hb
  induction d with
  | zero =>
    refine ⟨0, fun k n hk hn => ?_⟩
    obtain ⟨k, rfl⟩ : ∃ m, k = m + 1 := ⟨k - 1, by omega⟩
    obtain rfl : n = a.length := by omega
    simp (disch := omega) only [impl_Compose.l0, w64, tmod_pos, tdiv_pos, ↓if_pos, ↓if_neg, if_pos, if_neg, if_true, if_false, Option.bind_some, Bool.false_eq_true, Bool.not_true, Bool.not_false, ↓reduceIte]
  | succ d ih =>
    obtain ⟨K, ih⟩ := ih
    by_cases hd : d < a.length
    · have sh := cm_short (p := p) hc (n := a.length - (d + 1)) (by omega)
      have q := els_rd (pk_els ha) (i := (d : Int)) (by omega) (by omega)
      have e1 : els p (cut [rd a (d : Int)]) = true := cut_els (by simp [els, q.1, q.2])
      have e2 := cut1_len (rd a (d : Int))
      obtain ⟨K1, h1⟩ := mulPoly_ok h (a := cm p a b (a.length - (d + 1))) (b := b) (by omega) (by omega) (cm_els (by omega) _ _ _) (pk_els hb)
      obtain ⟨K2, h2⟩ := trimmed_ok (l := [rd a (d : Int)]) (by simp)
      obtain ⟨K3, h3⟩ := addPoly_ok h (ml_els (by omega) (cm p a b (a.length - (d + 1))) b) e1 (by omega) (by omega)
      refine ⟨K + K1 + K2 + K3 + 1, fun k n hk hn => ?_⟩
      obtain ⟨k, rfl⟩ : ∃ m, k = m + 1 := ⟨k - 1, by omega⟩
      obtain rfl : n = a.length - (d + 1) := by omega
      have e := ih k (a.length - (d + 1) + 1) (by omega) (by omega)
      rw [cm, show a.length - 1 - (a.length - (d + 1)) = d by omega] at e
      rw [show (((d + 1 : Nat) : Int) - 1) = (d : Int) by omega]
      simp (disch := omega) only [impl_Compose.l0, h1, h2, h3, w64, tmod_pos, tdiv_pos, ↓if_pos, ↓if_neg, if_pos, if_neg, if_true, if_false, Option.bind_some, Bool.false_eq_true, Bool.not_true, Bool.not_false, ↓reduceIte]
      exact e
    · exact ⟨0, fun k n hk hn => by omega⟩
theorem iComp_ok (h : FI f p g t) {a b : List Int} (ha : pk p a = true) (hb : pk p b = true) : Ev (fun k => impl_Compose.f k f a b) (cpo p a b) := by
  have hla := pk_len ha
  have hlb := pk_len hb
  obtain ⟨K1, h1⟩ := polyField2 h (a := a) (b := b) (by omega) (by omega)
  rw [if_pos ⟨ha, hb⟩] at h1
  have hm : (a.length - 1) * (b.length - 1) ≤ 400 * 400 := Nat.mul_le_mul (by omega) (by omega)
  have hmi : 1 ≤ a.length → 1 ≤ b.length → ((a.length : Int) - 1) * ((b.length : Int) - 1) = (((a.length - 1) * (b.length - 1) : Nat) : Int) := by
    intro h1 h2
    rw [Int.natCast_mul, show ((a.length - 1 : Nat) : Int) = (a.length : Int) - 1 by omega, show ((b.length - 1 : Nat) : Int) = (b.length : Int) - 1 by omega]
  by_cases c : cbig a b
  · refine ⟨K1 + 2, fun k hk => ?_⟩
    obtain ⟨k, rfl⟩ : ∃ m, k = m + 1 := ⟨k - 1, by omega⟩
    have c' := c
    unfold cbig at c'
    have e := hmi (by omega) (by omega)
    have hd : decide ((((a.length - 1) * (b.length - 1) : Nat) : Int) ≥ 400) = true := decide_eq_true (by omega)
    unfold impl_Compose.f cpo
    simp (disch := omega) only [h1, e, hd, impl_Compose.j0, c, w64, tmod_pos, tdiv_pos, ↓if_pos, ↓if_neg, if_pos, if_neg, if_true, if_false, Option.bind_some, Bool.false_eq_true, Bool.not_true, Bool.not_false, ↓reduceIte]
  · obtain ⟨K2, h2⟩ := iComp_l0 h.isF a b ha hb c a.length
    refine ⟨K1 + K2 + 2, fun k hk => ?_⟩
    obtain ⟨k, rfl⟩ : ∃ m, k = m + 1 := ⟨k - 1, by omega⟩
    have h3 := h2 k 0 (by omega) (by omega)
    rw [show cm p a b 0 = [] from rfl] at h3
    unfold impl_Compose.f cpo
    by_cases ca : 1 < a.length
    · by_cases cb : 1 < b.length
      · have e := hmi (by omega) (by omega)
        have c' := c
        unfold cbig at c'
        have hd : decide ((((a.length - 1) * (b.length - 1) : Nat) : Int) ≥ 400) = false := decide_eq_false (by omega)
        simp (disch := omega) only [h1, e, hd, impl_Compose.j0, c, h3, w64, tmod_pos, tdiv_pos, ↓if_pos, ↓if_neg, if_pos, if_neg, if_true, if_false, Option.bind_some, Bool.false_eq_true, Bool.not_true, Bool.not_false, ↓reduceIte]
      · simp (disch := omega) only [h1, impl_Compose.j0, c, h3, w64, tmod_pos, tdiv_pos, ↓if_pos, ↓if_neg, if_pos, if_neg, if_true, if_false, Option.bind_some, Bool.false_eq_true, Bool.not_true, Bool.not_false, ↓reduceIte]
    · simp (disch := omega) only [h1, impl_Compose.j0, c, h3, w64, tmod_pos, tdiv_pos, ↓if_pos, ↓if_neg, if_pos, if_neg, if_true, if_false, Option.bind_some, Bool.false_eq_true, Bool.not_true, Bool.not_false, ↓reduceIte]
theorem iComp_no {a b : List Int} (h : (f < 0 ∨ 9 ≤ f) ∨ ∃ p g t, FI f p g t ∧ ¬ (pk p a = true ∧ pk p b = true)) (hla : a.length ≤ 1048576) (hlb : b.length ≤ 1048576) : Ev (fun k => impl_Compose.f k f a b) ([], false) := by
  rcases h with h | ⟨p, g, t, h, hp⟩
  · obtain ⟨K1, h1⟩ := polyField_no h [a, b]
    refine ⟨K1 + 1, fun k hk => ?_⟩
    obtain ⟨k, rfl⟩ : ∃ m, k = m + 1 := ⟨k - 1, by omega⟩
    unfold impl_Compose.f
    simp (disch := omega) only [h1, impl_Compose.j0, w64, tmod_pos, tdiv_pos, ↓if_pos, ↓if_neg, if_pos, if_neg, if_true, if_false, Option.bind_some, Bool.false_eq_true, Bool.not_true, Bool.not_false, ↓reduceIte]
  · obtain ⟨K1, h1⟩ := polyField2 h hla hlb
    rw [if_neg hp] at h1
    refine ⟨K1 + 1, fun k hk => ?_⟩
    obtain ⟨k, rfl⟩ : ∃ m, k = m + 1 := ⟨k - 1, by omega⟩
    unfold impl_Compose.f
    simp (disch := omega) only [h1, impl_Compose.j0, w64, tmod_pos, tdiv_pos, ↓if_pos, ↓if_neg, if_pos, if_neg, if_true, if_false, Option.bind_some, Bool.false_eq_true, Bool.not_true, Bool.not_false, ↓reduceIte]
theorem sComp_l0 (h : FI f p g t) (a b : List Int) (ha : pk p a = true) (hb : pk p b = true) (hc : ¬ cbig a b) (d : Nat) :
    ∃ K, ∀ (k n : Nat), K < k → n + d = a.length → spec_Compose.l0 k f a b (cm p a b n) ((d : Int) - 1) = some (cm p a b a.length, true) := by
  have r := h.isF.rng
  have hla := pk_len ha
  have hlb := pk_len hb
  induction d with
  | zero =>
    refine ⟨0, fun k n hk hn => ?_⟩
    obtain ⟨k, rfl⟩ : ∃ m, k = m + 1 := ⟨k - 1, by omega⟩
    obtain rfl : n = a.length := by omega
    simp (disch := omega) only [spec_Compose.l0, w64, tmod_pos, tdiv_pos, ↓if_pos, ↓if_neg, if_pos, if_neg, if_true, if_false, Option.bind_some, Bool.false_eq_true, Bool.not_true, Bool.not_false, ↓reduceIte]
  | succ d ih =>
    obtain ⟨K, ih⟩ := ih
    by_cases hd : d < a.length
    · have sh := cm_short (p := p) hc (n := a.length - (d + 1)) (by omega)
      have q := els_rd (pk_els ha) (i := (d : Int)) (by omega) (by omega)
      have e1 : els p (cut [rd a (d : Int)]) = true := cut_els (by simp [els, q.1, q.2])
      have e2 := cut1_len (rd a (d : Int))
      obtain ⟨K1, h1⟩ := l03Mul_ok h (a := cm p a b (a.length - (d + 1))) (b := b) (by omega) (by omega) (cm_els (by omega) _ _ _) (pk_els hb)
      obtain ⟨K2, h2⟩ := l03Cut_ok (l := [rd a (d : Int)]) (by simp)
      obtain ⟨K3, h3⟩ := sAddP_ok h (pk_of sh.1 (ml_els (by omega) (cm p a b (a.length - (d + 1))) b) (ml_top _ _ _)) (pk_of (by omega) e1 (cut_top _))
      refine ⟨K + K1 + K2 + K3 + 1, fun k n hk hn => ?_⟩
      obtain ⟨k, rfl⟩ : ∃ m, k = m + 1 := ⟨k - 1, by omega⟩
      obtain rfl : n = a.length - (d + 1) := by omega
      have e := ih k (a.length - (d + 1) + 1) (by omega) (by omega)
      rw [cm, show a.length - 1 - (a.length - (d + 1)) = d by omega] at e
      rw [show (((d + 1 : Nat) : Int) - 1) = (d : Int) by omega]
      simp (disch := omega) only [spec_Compose.l0, h1, h2, h3, w64, tmod_pos, tdiv_pos, ↓if_pos, ↓if_neg, if_pos, if_neg, if_true, if_false, Option.bind_some, Bool.false_eq_true, Bool.not_true, Bool.not_false, ↓reduceIte]
      exact e
    · exact ⟨0, fun k n hk hn => by omega⟩
theorem sComp_ok (h : FI f p g t) {a b : List Int} (ha : pk p a = true) (hb : pk p b = true) : Ev (fun k => spec_Compose.f k f a b) (cpo p a b) := by
  have hla := pk_len ha
  have hlb := pk_len hb
  obtain ⟨K1, h1⟩ := PolyOk_ok h (a := a) (by omega)
  obtain ⟨K0, h0⟩ := PolyOk_ok h (a := b) (by omega)
  rw [ha] at h1
  rw [hb] at h0
  have hm : (a.length - 1) * (b.length - 1) ≤ 400 * 400 := Nat.mul_le_mul (by omega) (by omega)
  have hmi : 1 ≤ a.length → 1 ≤ b.length → ((a.length : Int) - 1) * ((b.length : Int) - 1) = (((a.length - 1) * (b.length - 1) : Nat) : Int) := by
    intro h1 h2
    rw [Int.natCast_mul, show ((a.length - 1 : Nat) : Int) = (a.length : Int) - 1 by omega, show ((b.length - 1 : Nat) : Int) = (b.length : Int) - 1 by omega]
  by_cases c : cbig a b
  · refine ⟨K0 + K1 + 3, fun k hk => ?_⟩
    obtain ⟨k, rfl⟩ : ∃ m, k = m + 2 := ⟨k - 2, by omega⟩
    have c' := c
    unfold cbig at c'
    have e := hmi (by omega) (by omega)
    have hd : decide ((((a.length - 1) * (b.length - 1) : Nat) : Int) ≥ 400) = true := decide_eq_true (by omega)
    unfold spec_Compose.f cpo
    simp (disch := omega) only [h1, h0, e, hd, spec_Compose.j0, spec_Compose.j1, c, w64, tmod_pos, tdiv_pos, ↓if_pos, ↓if_neg, if_pos, if_neg, if_true, if_false, Option.bind_some, Bool.false_eq_true, Bool.not_true, Bool.not_false, ↓reduceIte]
  · obtain ⟨K2, h2⟩ := sComp_l0 h a b ha hb c a.length
    refine ⟨K0 + K1 + K2 + 3, fun k hk => ?_⟩
    obtain ⟨k, rfl⟩ : ∃ m, k = m + 2 := ⟨k - 2, by omega⟩
    have h3 := h2 k 0 (by omega) (by omega)
    rw [show cm p a b 0 = [] from rfl] at h3
    unfold spec_Compose.f cpo
    by_cases ca : 1 < a.length
    · by_cases cb : 1 < b.length
      · have e := hmi (by omega) (by omega)
        have c' := c
        unfold cbig at c'
        have hd : decide ((((a.length - 1) * (b.length - 1) : Nat) : Int) ≥ 400) = false := decide_eq_false (by omega)
        simp (disch := omega) only [h1, h0, e, hd, spec_Compose.j0, spec_Compose.j1, c, h3, w64, tmod_pos, tdiv_pos, ↓if_pos, ↓if_neg, if_pos, if_neg, if_true, if_false, Option.bind_some, Bool.false_eq_true, Bool.not_true, Bool.not_false, ↓reduceIte]
      · simp (disch := omega) only [h1, h0, spec_Compose.j0, spec_Compose.j1, c, h3, w64, tmod_pos, tdiv_pos, ↓if_pos, ↓if_neg, if_pos, if_neg, if_true, if_false, Option.bind_some, Bool.false_eq_true, Bool.not_true, Bool.not_false, ↓reduceIte]
    · simp (disch := omega) only [h1, h0, spec_Compose.j0, spec_Compose.j1, c, h3, w64, tmod_pos, tdiv_pos, ↓if_pos, ↓if_neg, if_pos, if_neg, if_true, if_false, Option.bind_some, Bool.false_eq_true, Bool.not_true, Bool.not_false, ↓reduceIte]
theorem sComp_no {a b : List Int} (h : (f < 0 ∨ 9 ≤ f) ∨ ∃ p g t, FI f p g t ∧ ¬ (pk p a = true ∧ pk p b = true)) (hla : a.length ≤ 1048576) (hlb : b.length ≤ 1048576) : Ev (fun k => spec_Compose.f k f a b) ([], false) := by
  obtain ⟨x, y, ⟨K1, h1⟩, ⟨K2, h2⟩, hxy⟩ := twoOk_no h hla hlb
  refine ⟨K1 + K2 + 1, fun k hk => ?_⟩
  obtain ⟨k, rfl⟩ : ∃ m, k = m + 1 := ⟨k - 1, by omega⟩
  unfold spec_Compose.f
  rcases hxy with rfl | ⟨rfl, rfl⟩
  · simp (disch := omega) only [h1, spec_Compose.j0, w64, tmod_pos, tdiv_pos, ↓if_pos, ↓if_neg, if_pos, if_neg, if_true, if_false, Option.bind_some, Bool.false_eq_true, Bool.not_true, Bool.not_false, ↓reduceIte]
  · simp (disch := omega) only [h1, h2, spec_Compose.j0, w64, tmod_pos, tdiv_pos, ↓if_pos, ↓if_neg, if_pos, if_neg, if_true, if_false, Option.bind_some, Bool.false_eq_true, Bool.not_true, Bool.not_false, ↓reduceIte]
end

end Go.Proofs.Ytjfmclpfdijkiaa.M
