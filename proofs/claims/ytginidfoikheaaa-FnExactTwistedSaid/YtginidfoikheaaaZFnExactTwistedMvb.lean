import Derived.Test.YtginidfoikheaaaG0
/- What Correlate and Twisted come to, of the program and of the reference. -/
import Derived.Test.YtginidfoikheaaaZFnExactTwistedMa
import Derived.Test.YtginidfoikheaaaZFnExactTwistedMb
import Derived.Test.YtginidfoikheaaaZFnExactTwistedMc
import Derived.Test.YtginidfoikheaaaZFnExactTwistedMd
import Derived.Test.YtginidfoikheaaaZFnExactTwistedMe
import Derived.Test.YtginidfoikheaaaZFnExactTwistedMh
import Derived.Test.YtginidfoikheaaaZFnExactTwistedMr
import Derived.Test.YtginidfoikheaaaZFnExactTwistedMv
import Derived.Test.YtginidfoikheaaaZFnExactTwistedMx
import Derived.Test.YtginidfoikheaaaZFnExactTwistedMva
import Derived.Test.YtginidfoikheaaaWWords
import Derived.Test.YtginidfoikheaaaWMore
import Derived.Test.YtginidfoikheaaaZFnExactTwisted3
import Derived.Test.YtginidfoikheaaaZFnExactTwisted2
import Derived.Test.YtginidfoikheaaaZFnExactTwisted4
import Derived.Test.YtginidfoikheaaaZFnExactTwisted0
import Derived.Test.YtginidfoikheaaaZFnExactTwisted5
namespace Go.Proofs.Ytginidfoikheaaa.M
open Go.RowKit Go.Proofs.Ytginidfoikheaaa.P Go.Proofs.YtginidfoikheaaaW.PrintWords Go.Proofs.YtginidfoikheaaaW.PrintLast Go.Proofs.YtginidfoikheaaaW.PrintMore
set_option linter.unusedVariables false
set_option linter.unusedSimpArgs false

section
variable {f p g t : Int}
/-! ### Correlate -/
def wn (n x : Nat) : Nat := if x < n then x else x - n
theorem wn_lt {n x : Nat} (h : x < 2 * n) : wn n x < n := by unfold wn; split <;> omega
theorem wn_tm {n i q : Nat} (hi : i < n) (hq : q < n) : Int.tmod ((i : Int) + q) n = (wn n (i + q) : Nat) := by
  rw [tm_small (by omega) (by omega)]
  unfold wn
  split <;> split <;> omega
def cr (p : Int) (a b : List Int) (q : Nat) : Nat → Int
  | 0 => 0
  | i + 1 => (cr p a b q i + rd a (i : Int) * rd b ((wn a.length (i + q) : Nat) : Int)) % p
theorem cr_rng {p : Int} (hp : 0 < p) (a b : List Int) (q i : Nat) : 0 ≤ cr p a b q i ∧ cr p a b q i < p := by
  cases i with
  | zero => exact ⟨Int.le_refl _, hp⟩
  | succ n => exact emod_rng hp _
def co (p : Int) (a b : List Int) : List Int := mk a.length fun q => cr p a b q a.length
theorem co_len (p : Int) (a b : List Int) : (co p a b).length = a.length := mk_length _ _
/-- What the list holds while number q gathers its i-th term. -/
def crI (p : Int) (a b x : List Int) (q i : Nat) : Prop := x.length = a.length ∧ ∀ j : Nat, j < a.length → rd x (j : Int) = if j < q then cr p a b j a.length else if j = q then cr p a b q i else 0

/-! ### Twisted -/
def tw (p : Int) (a b : List Int) (q : Nat) : Nat → Int
  | 0 => 0
  | i + 1 => if i ≤ q then (tw p a b q i + rd a (i : Int) * rd b (fro a.length i q) % p) % p else (tw p a b q i - rd a (i : Int) * rd b (fro a.length i q) % p) % p
theorem tw_rng {p : Int} (hp : 0 < p) (a b : List Int) (q i : Nat) : 0 ≤ tw p a b q i ∧ tw p a b q i < p := by
  cases i with
  | zero => exact ⟨Int.le_refl _, hp⟩
  | succ n => unfold tw; split <;> exact emod_rng hp _
def tt (p : Int) (a b : List Int) : List Int := mk a.length fun q => tw p a b q a.length
theorem tt_len (p : Int) (a b : List Int) : (tt p a b).length = a.length := mk_length _ _
def twI (p : Int) (a b x : List Int) (i j : Nat) : Prop := x.length = a.length ∧ ∀ q : Nat, q < a.length → rd x (q : Int) = if fro a.length i q < j then tw p a b q (i + 1) else tw p a b q i
theorem fro_at {n i j m : Nat} (hi : i < n) (hj : j < n) (hm : m = wn n (i + j)) : fro n i m = j ∧ (i + j < n ↔ i ≤ m) ∧ m < n := by
  subst hm
  unfold fro wn
  split <;> split <;> omega
theorem fro_ne {n i j m q : Nat} (hi : i < n) (hj : j < n) (hm : m = wn n (i + j)) (hq : q < n) (h : ¬ m = q) : fro n i q ≠ j := by
  subst hm
  unfold wn at h
  unfold fro
  split at h <;> split <;> omega
theorem tw_step {x a b : List Int} {i j m : Nat} {v : Int} (hi : i < a.length) (hj : j < a.length) (hm : m = wn a.length (i + j)) (hv : v = tw p a b m (i + 1)) (hx : twI p a b x i j) : twI p a b (x.set m v) i (j + 1) := by
  obtain ⟨hx, hq⟩ := hx
  have e := fro_at hi hj hm
  refine ⟨by rw [List.length_set, hx], fun q hqn => ?_⟩
  rw [rd_set _ _ _ _ (by omega)]
  by_cases c : m = q
  · subst c; rw [if_pos rfl, e.1, if_pos (by omega), hv]
  · have e2 := fro_ne hi hj hm hqn c
    rw [if_neg c, hq q hqn]
    by_cases c2 : fro a.length i q < (j : Int)
    · rw [if_pos c2, if_pos (by omega)]
    · rw [if_neg c2, if_neg (by omega)]
theorem iTw_l1 (h : IsF p g t) (a b R : List Int) (hl : b.length = a.length) (hn : 1 ≤ a.length ∧ a.length ≤ 512) (ha : els p a = true) (hb : els p b = true) (i m : Nat) (hi : i < a.length)
    (F : ∀ (k : Nat) (y : List Int), m ≤ k → twI p a b y i a.length → impl_field_twisted.l0 k b a.length y a a.length ((i + 1 : Nat) : Int) p g t = some R) (d : Nat) :
    ∀ (k j : Nat) (x : List Int), m + d < k → a.length - j = d → j ≤ a.length → twI p a b x i j → impl_field_twisted.l1 k b a.length x i (rd a (i : Int)) a a.length i b b.length j p g t = some R := by
  have r := h.rng
  induction d with
  | zero =>
    intro k j x hk hd hj hx
    obtain ⟨k, rfl⟩ : ∃ m, k = m + 1 := ⟨k - 1, by omega⟩
    obtain rfl : j = a.length := by omega
    simp (disch := omega) only [impl_field_twisted.l1, w64, tmod_pos, tdiv_pos, ↓if_pos, ↓if_neg, if_pos, if_neg, if_true, if_false, Option.bind_some, Bool.false_eq_true, Bool.not_true, Bool.not_false, ↓reduceIte]
    exact F k x (by omega) hx
  | succ d ih =>
    intro k j x hk hd hj hx
    obtain ⟨k, rfl⟩ : ∃ m, k = m + 1 := ⟨k - 1, by omega⟩
    have q1 := els_rd ha (i := (i : Int)) (by omega) (by omega)
    have q2 := els_rd hb (i := (j : Int)) (by omega) (by omega)
    have q3 := emod_rng (p := p) (by omega) (rd a (i : Int) * rd b (j : Int))
    have hxl := hx.1
    by_cases c : i + j < a.length
    · have hm : i + j = wn a.length (i + j) := by unfold wn; rw [if_pos c]
      have e := fro_at hi (show j < a.length by omega) hm
      have e2 : rd x ((i + j : Nat) : Int) = tw p a b (i + j) i := by rw [hx.2 _ c, e.1, if_neg (by omega)]
      have q4 := tw_rng (p := p) (by omega) a b (i + j) i
      have hv : (tw p a b (i + j) i + rd a (i : Int) * rd b (j : Int) % p) % p = tw p a b (i + j) (i + 1) := by
        rw [tw, if_pos (by omega), e.1]
      have e5 := ih k (j + 1) _ (by omega) (by omega) (by omega) (tw_step hi (by omega) hm hv hx)
      rw [show ((i + j : Nat) : Int) = (i : Int) + j by omega] at e2
      simp (disch := omega) only [impl_field_twisted.l1, mul_ok h q1.1 q1.2 q2.1 q2.2, Option.bind_some, w64, if_pos, e2, add_ok h q4.1 q4.2 q3.1 q3.2]
      rw [show ((i : Int) + j).toNat = i + j by omega]
      exact e5
    · have hm : i + j - a.length = wn a.length (i + j) := by unfold wn; rw [if_neg c]
      have e := fro_at hi (show j < a.length by omega) hm
      have e2 : rd x ((i + j - a.length : Nat) : Int) = tw p a b (i + j - a.length) i := by rw [hx.2 _ e.2.2, e.1, if_neg (by omega)]
      have q4 := tw_rng (p := p) (by omega) a b (i + j - a.length) i
      have hv : (tw p a b (i + j - a.length) i - rd a (i : Int) * rd b (j : Int) % p) % p = tw p a b (i + j - a.length) (i + 1) := by
        rw [tw, if_neg (by omega), e.1]
      have e5 := ih k (j + 1) _ (by omega) (by omega) (by omega) (tw_step hi (by omega) hm hv hx)
      rw [show ((i + j - a.length : Nat) : Int) = (i : Int) + j - a.length by omega] at e2
      simp (disch := omega) only [impl_field_twisted.l1, mul_ok h q1.1 q1.2 q2.1 q2.2, Option.bind_some, w64, if_pos, if_neg, e2, sub_ok h q4.1 q4.2 q3.1 q3.2]
      rw [show ((i : Int) + j - a.length).toNat = i + j - a.length by omega]
      exact e5
theorem iTw_l0 (h : IsF p g t) (a b : List Int) (hl : b.length = a.length) (hn : 1 ≤ a.length ∧ a.length ≤ 512) (ha : els p a = true) (hb : els p b = true) (d : Nat) :
    ∃ K, ∀ (k i : Nat) (x : List Int), K < k → a.length - i = d → i ≤ a.length → twI p a b x i 0 → impl_field_twisted.l0 k b a.length x a a.length i p g t = some (tt p a b) := by
  induction d with
  | zero =>
    refine ⟨0, fun k i x hk hd hi hx => ?_⟩
    obtain ⟨k, rfl⟩ : ∃ m, k = m + 1 := ⟨k - 1, by omega⟩
    obtain rfl : i = a.length := by omega
    simp (disch := omega) only [impl_field_twisted.l0, w64, tmod_pos, tdiv_pos, ↓if_pos, ↓if_neg, if_pos, if_neg, if_true, if_false, Option.bind_some, Bool.false_eq_true, Bool.not_true, Bool.not_false, ↓reduceIte]
    congr 1
    refine eq_mk' hx.1 fun q hq => ?_
    have : 0 ≤ fro a.length a.length q := by unfold fro; split <;> omega
    rw [hx.2 q hq, if_neg (by omega)]
  | succ d ih =>
    obtain ⟨K, ih⟩ := ih
    refine ⟨K + 600, fun k i x hk hd hi hx => ?_⟩
    obtain ⟨k, rfl⟩ : ∃ m, k = m + 1 := ⟨k - 1, by omega⟩
    simp (disch := omega) only [impl_field_twisted.l0, w64, tmod_pos, tdiv_pos, ↓if_pos, ↓if_neg, if_pos, if_neg, if_true, if_false, Option.bind_some, Bool.false_eq_true, Bool.not_true, Bool.not_false, ↓reduceIte]
    refine iTw_l1 h a b _ hl hn ha hb i (K + 1) (by omega) (fun k' y hk' hy => ?_) a.length k 0 x (by omega) (by omega) (by omega) hx
    refine ih k' (i + 1) y (by omega) (by omega) (by omega) ⟨hy.1, fun q hq => ?_⟩
    have h1 : fro a.length i q < a.length := by unfold fro; split <;> omega
    have h2 : 0 ≤ fro a.length ((i + 1 : Nat) : Int) q := by unfold fro; split <;> omega
    rw [hy.2 q hq, if_pos h1, if_neg (by omega)]
theorem twisted_ok (h : IsF p g t) {a b : List Int} (hl : b.length = a.length) (hn : 1 ≤ a.length ∧ a.length ≤ 512) (ha : els p a = true) (hb : els p b = true) : Ev (fun k => impl_field_twisted.f k p g t a b) (tt p a b) := by
  obtain ⟨K2, h2⟩ := iTw_l0 h a b hl hn ha hb a.length
  refine ⟨K2 + 1, fun k hk => ?_⟩
  unfold impl_field_twisted.f
  simp (disch := omega) only [Int.toNat_natCast, w64, tmod_pos, tdiv_pos, ↓if_pos, ↓if_neg, if_pos, if_neg, if_true, if_false, Option.bind_some, Bool.false_eq_true, Bool.not_true, Bool.not_false, ↓reduceIte]
  refine h2 k 0 _ (by omega) (by omega) (by omega) ⟨List.length_replicate, fun j hj => ?_⟩
  have h2 : 0 ≤ fro a.length ((0 : Nat) : Int) j := by unfold fro; split <;> omega
  rw [rd_replicate, if_neg (by omega)]
  rfl
theorem iTw_ok (h : FI f p g t) {a b : List Int} (ha : vk p t a = true) (hb : vk p t b = true) (hl : b.length = a.length) : Ev (fun k => impl_Twisted.f k f a b) (tt p a b) := by
  have hn := vk_n ha
  obtain ⟨K1, h1⟩ := vf2_ok h ha hb hl
  obtain ⟨K2, h2⟩ := twisted_ok h.isF hl hn (vk_els ha) (vk_els hb)
  refine ⟨K1 + K2 + 1, fun k hk => ?_⟩
  unfold impl_Twisted.f
  simp (disch := omega) only [h1, h2, w64, tmod_pos, tdiv_pos, ↓if_pos, ↓if_neg, if_pos, if_neg, if_true, if_false, Option.bind_some, Bool.false_eq_true, Bool.not_true, Bool.not_false, ↓reduceIte]
theorem iTw_no {a b : List Int} (h : (f < 0 ∨ 9 ≤ f) ∨ ∃ p g t, FI f p g t ∧ ¬ (vk p t a = true ∧ vk p t b = true ∧ b.length = a.length)) (ha : a.length ≤ 1048576) (hb : b.length ≤ 1048576) : Ev (fun k => impl_Twisted.f k f a b) [] := by
  obtain ⟨K1, h1⟩ := vf2_no h ha hb
  refine ⟨K1, fun k hk => ?_⟩
  unfold impl_Twisted.f
  simp (disch := omega) only [h1, w64, tmod_pos, tdiv_pos, ↓if_pos, ↓if_neg, if_pos, if_neg, if_true, if_false, Option.bind_some, Bool.false_eq_true, Bool.not_true, Bool.not_false, ↓reduceIte]
theorem sTw_l1 (h : IsF p g t) (a b R : List Int) (hl : b.length = a.length) (hn : 1 ≤ a.length ∧ a.length ≤ 512) (ha : els p a = true) (hb : els p b = true) (q m : Nat) (hq : q < a.length)
    (F : ∀ (k : Nat), m ≤ k → spec_Twisted.l0 k a b (mk (q + 1) fun q => tw p a b q a.length) p a.length ((q + 1 : Nat) : Int) = some R) (d : Nat) :
    ∀ (k i : Nat), m + d < k → a.length - i = d → i ≤ a.length → spec_Twisted.l1 k a b (mk q fun q => tw p a b q a.length) p a.length q (tw p a b q i) i = some R := by
  have r := h.rng
  induction d with
  | zero =>
    intro k i hk hd hi
    obtain ⟨k, rfl⟩ : ∃ m, k = m + 1 := ⟨k - 1, by omega⟩
    obtain rfl : i = a.length := by omega
    have hlen : (mk q fun q => tw p a b q a.length).length = q := mk_length _ _
    have e := F k (by omega)
    rw [mk_succ] at e
    simp (disch := omega) only [spec_Twisted.l1, w64, tmod_pos, tdiv_pos, ↓if_pos, ↓if_neg, if_pos, if_neg, if_true, if_false, Option.bind_some, Bool.false_eq_true, Bool.not_true, Bool.not_false, ↓reduceIte]
    exact e
  | succ d ih =>
    intro k i hk hd hi
    obtain ⟨k, rfl⟩ : ∃ m, k = m + 1 := ⟨k - 1, by omega⟩
    have hfr : 0 ≤ fro a.length i q ∧ fro a.length i q < a.length := by unfold fro; split <;> omega
    have e : Int.tmod ((q : Int) - i + a.length) a.length = fro a.length i q := by
      rw [tm_small (by omega) (by omega)]; unfold fro; split <;> split <;> omega
    have q1 := els_rd ha (i := (i : Int)) (by omega) (by omega)
    have q2 := els_rd hb hfr.1 (by omega)
    have q3 := mul_rng (p := p) (by omega) q1.1 q1.2 q2.1 q2.2
    have q5 := emod_rng (p := p) (by omega) (rd a (i : Int) * rd b (fro a.length i q))
    have q4 := tw_rng (p := p) (by omega) a b q i
    have e5 := ih k (i + 1) (by omega) (by omega) (by omega)
    by_cases c : i ≤ q
    · rw [tw, if_pos c] at e5
      simp (disch := omega) only [spec_Twisted.l1, hl, w64, e, tmod_pos, if_pos, if_neg]
      exact e5
    · rw [tw, if_neg c] at e5
      have e6 : (tw p a b q i + (p - rd a (i : Int) * rd b (fro a.length i q) % p)) % p = (tw p a b q i - rd a (i : Int) * rd b (fro a.length i q) % p) % p := by
        rw [show tw p a b q i + (p - rd a (i : Int) * rd b (fro a.length i q) % p) = (tw p a b q i - rd a (i : Int) * rd b (fro a.length i q) % p) + p by omega, Int.add_emod_right]
      simp (disch := omega) only [spec_Twisted.l1, hl, w64, e, tmod_pos, if_pos, if_neg, e6]
      exact e5
theorem sTw_l0 (h : IsF p g t) (a b : List Int) (hl : b.length = a.length) (hn : 1 ≤ a.length ∧ a.length ≤ 512) (ha : els p a = true) (hb : els p b = true) (d : Nat) :
    ∃ K, ∀ (k q : Nat), K < k → a.length - q = d → q ≤ a.length → spec_Twisted.l0 k a b (mk q fun q => tw p a b q a.length) p a.length q = some (tt p a b) := by
  induction d with
  | zero =>
    refine ⟨0, fun k q hk hd hq => ?_⟩
    obtain ⟨k, rfl⟩ : ∃ m, k = m + 1 := ⟨k - 1, by omega⟩
    obtain rfl : q = a.length := by omega
    simp (disch := omega) only [spec_Twisted.l0, w64, tmod_pos, tdiv_pos, ↓if_pos, ↓if_neg, if_pos, if_neg, if_true, if_false, Option.bind_some, Bool.false_eq_true, Bool.not_true, Bool.not_false, ↓reduceIte]
    rfl
  | succ d ih =>
    obtain ⟨K, ih⟩ := ih
    refine ⟨K + 600, fun k q hk hd hq => ?_⟩
    obtain ⟨k, rfl⟩ : ∃ m, k = m + 1 := ⟨k - 1, by omega⟩
    simp (disch := omega) only [spec_Twisted.l0, w64, tmod_pos, tdiv_pos, ↓if_pos, ↓if_neg, if_pos, if_neg, if_true, if_false, Option.bind_some, Bool.false_eq_true, Bool.not_true, Bool.not_false, ↓reduceIte]
    exact sTw_l1 h a b _ hl hn ha hb q (K + 1) (by omega) (fun k' hk' => ih k' (q + 1) (by omega) (by omega) (by omega)) a.length k 0 (by omega) (by omega) (by omega)
theorem sTw_ok (h : FI f p g t) {a b : List Int} (ha : vk p t a = true) (hb : vk p t b = true) (hl : b.length = a.length) : Ev (fun k => spec_Twisted.f k f a b) (tt p a b) := by
  have hn := vk_n ha
  obtain ⟨K1, h1⟩ := Two_ok h ha hb hl
  obtain ⟨K2, h2⟩ := sTw_l0 h.isF a b hl hn (vk_els ha) (vk_els hb) a.length
  refine ⟨K1 + K2 + 1, fun k hk => ?_⟩
  unfold spec_Twisted.f
  simp (disch := omega) only [h1, Modulus_ok h, w64, tmod_pos, tdiv_pos, ↓if_pos, ↓if_neg, if_pos, if_neg, if_true, if_false, Option.bind_some, Bool.false_eq_true, Bool.not_true, Bool.not_false, ↓reduceIte]
  exact h2 k 0 (by omega) (by omega) (by omega)
theorem sTw_no {a b : List Int} (h : (f < 0 ∨ 9 ≤ f) ∨ ∃ p g t, FI f p g t ∧ ¬ (vk p t a = true ∧ vk p t b = true ∧ b.length = a.length)) (ha : a.length ≤ 1048576) (hb : b.length ≤ 1048576) : Ev (fun k => spec_Twisted.f k f a b) [] := by
  obtain ⟨K1, h1⟩ := Two_no h ha hb
  refine ⟨K1, fun k hk => ?_⟩
  unfold spec_Twisted.f
  simp (disch := omega) only [h1, w64, tmod_pos, tdiv_pos, ↓if_pos, ↓if_neg, if_pos, if_neg, if_true, if_false, Option.bind_some, Bool.false_eq_true, Bool.not_true, Bool.not_false, ↓reduceIte]
end

end Go.Proofs.Ytginidfoikheaaa.M
