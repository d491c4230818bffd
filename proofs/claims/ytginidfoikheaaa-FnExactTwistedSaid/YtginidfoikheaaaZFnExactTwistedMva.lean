import Derived.Test.YtginidfoikheaaaG0
/- What VectorOk, Rotate, Energy, Correlate, Pointwise and Twisted come to, of the program and of the reference. -/
import Derived.Test.YtginidfoikheaaaZFnExactTwistedMa
import Derived.Test.YtginidfoikheaaaZFnExactTwistedMb
import Derived.Test.YtginidfoikheaaaZFnExactTwistedMc
import Derived.Test.YtginidfoikheaaaZFnExactTwistedMd
import Derived.Test.YtginidfoikheaaaZFnExactTwistedMe
import Derived.Test.YtginidfoikheaaaZFnExactTwistedMh
import Derived.Test.YtginidfoikheaaaZFnExactTwistedMr
import Derived.Test.YtginidfoikheaaaZFnExactTwistedMv
import Derived.Test.YtginidfoikheaaaZFnExactTwistedMx
import Derived.Test.YtginidfoikheaaaWWords
import Derived.Test.YtginidfoikheaaaWMore
import Derived.Test.YtginidfoikheaaaZFnExactTwisted2
import Derived.Test.YtginidfoikheaaaZFnExactTwisted0
import Derived.Test.YtginidfoikheaaaZFnExactTwisted4
namespace Go.Proofs.Ytginidfoikheaaa.M
open Go.RowKit Go.Proofs.Ytginidfoikheaaa.P Go.Proofs.YtginidfoikheaaaW.PrintWords Go.Proofs.YtginidfoikheaaaW.PrintLast Go.Proofs.YtginidfoikheaaaW.PrintMore
set_option linter.unusedVariables false
set_option linter.unusedSimpArgs false

theorem vk_n {p t : Int} {l : List Int} (h : vk p t l = true) : 1 ≤ l.length ∧ l.length ≤ 512 := by
  obtain ⟨j, h1, h2, h3, h4⟩ := vk_len h
  have := two_pow_512 h1
  have := Nat.two_pow_pos j
  omega
theorem vec_cases (f : Int) (a : List Int) : (∃ p g t, FI f p g t ∧ vk p t a = true) ∨ ((f < 0 ∨ 9 ≤ f) ∨ ∃ p g t, FI f p g t ∧ vk p t a = false) := by
  rcases FI.cases f with ⟨p, g, t, h⟩ | h
  · cases e : vk p t a
    · exact .inr (.inr ⟨p, g, t, h, e⟩)
    · exact .inl ⟨p, g, t, h, e⟩
  · exact .inr (.inl h)
theorem vec_cases2 (f : Int) (a b : List Int) : (∃ p g t, FI f p g t ∧ vk p t a = true ∧ vk p t b = true ∧ b.length = a.length) ∨ ((f < 0 ∨ 9 ≤ f) ∨ ∃ p g t, FI f p g t ∧ ¬ (vk p t a = true ∧ vk p t b = true ∧ b.length = a.length)) := by
  rcases FI.cases f with ⟨p, g, t, h⟩ | h
  · by_cases e : vk p t a = true ∧ vk p t b = true ∧ b.length = a.length
    · exact .inl ⟨p, g, t, h, e⟩
    · exact .inr (.inr ⟨p, g, t, h, e⟩)
  · exact .inr (.inl h)
/-- The remainder of what is below twice n. -/
theorem tm_small {x n : Int} (h0 : 0 ≤ x) (h1 : x < 2 * n) : Int.tmod x n = if x < n then x else x - n := by
  rw [tmod_pos h0]
  split
  · exact Int.emod_eq_of_lt h0 (by omega)
  · rw [show x = (x - n) + n by omega, Int.add_emod_right, Int.emod_eq_of_lt (by omega) (by omega)]; omega

section
variable {f p g t : Int}
theorem vf1_ok (h : FI f p g t) {a : List Int} (ha : vk p t a = true) : Ev (fun k => impl_vectorField.f k f [a]) (p, g, t, true) := by
  have hn := vk_n ha
  have := vectorField1 h (a := a) (by omega)
  rw [if_pos ha] at this
  exact this
theorem vf1_no {a : List Int} (h : (f < 0 ∨ 9 ≤ f) ∨ ∃ p g t, FI f p g t ∧ vk p t a = false) (ha : a.length ≤ 1048576) : Ev (fun k => impl_vectorField.f k f [a]) (0, 0, 0, false) := by
  rcases h with h | ⟨p, g, t, h, hp⟩
  · exact vectorField_no h [a]
  · have := vectorField1 h ha
    rw [if_neg (by simp [hp])] at this
    exact this
theorem vf2_ok (h : FI f p g t) {a b : List Int} (ha : vk p t a = true) (hb : vk p t b = true) (hl : b.length = a.length) : Ev (fun k => impl_vectorField.f k f [a, b]) (p, g, t, true) := by
  have hn := vk_n ha
  have := vectorField2 h (a := a) (b := b) (by omega) (by omega)
  rw [if_pos ⟨ha, hb, hl⟩] at this
  exact this
theorem vf2_no {a b : List Int} (h : (f < 0 ∨ 9 ≤ f) ∨ ∃ p g t, FI f p g t ∧ ¬ (vk p t a = true ∧ vk p t b = true ∧ b.length = a.length)) (ha : a.length ≤ 1048576) (hb : b.length ≤ 1048576) : Ev (fun k => impl_vectorField.f k f [a, b]) (0, 0, 0, false) := by
  rcases h with h | ⟨p, g, t, h, hp⟩
  · exact vectorField_no h [a, b]
  · have := vectorField2 h ha hb
    rw [if_neg hp] at this
    exact this
theorem VectorOk1 (h : FI f p g t) {a : List Int} (ha : vk p t a = true) : Ev (fun k => spec_VectorOk.f k f a) true := by
  have hn := vk_n ha
  have := VectorOk_ok h (a := a) (by omega)
  rw [ha] at this
  exact this
theorem VectorOk0 {a : List Int} (h : (f < 0 ∨ 9 ≤ f) ∨ ∃ p g t, FI f p g t ∧ vk p t a = false) (ha : a.length ≤ 1048576) : Ev (fun k => spec_VectorOk.f k f a) false := by
  rcases h with h | ⟨p, g, t, h, hp⟩
  · exact VectorOk_no h a
  · have := VectorOk_ok h ha
    rw [hp] at this
    exact this
theorem Two_ok (h : FI f p g t) {a b : List Int} (ha : vk p t a = true) (hb : vk p t b = true) (hl : b.length = a.length) : Ev (fun k => spec_l04Two.f k f a b) true := by
  obtain ⟨K1, h1⟩ := VectorOk1 h ha
  obtain ⟨K2, h2⟩ := VectorOk1 h hb
  refine ⟨K1 + K2, fun k hk => ?_⟩
  unfold spec_l04Two.f
  simp (disch := omega) only [h1, h2, w64, tmod_pos, tdiv_pos, ↓if_pos, ↓if_neg, if_pos, if_neg, if_true, if_false, Option.bind_some, Bool.false_eq_true, Bool.not_true, Bool.not_false, ↓reduceIte]
theorem Two_no {a b : List Int} (h : (f < 0 ∨ 9 ≤ f) ∨ ∃ p g t, FI f p g t ∧ ¬ (vk p t a = true ∧ vk p t b = true ∧ b.length = a.length)) (ha : a.length ≤ 1048576) (hb : b.length ≤ 1048576) : Ev (fun k => spec_l04Two.f k f a b) false := by
  by_cases hl : b.length = a.length
  · have key : ∃ x y : Bool, Ev (fun k => spec_VectorOk.f k f a) x ∧ Ev (fun k => spec_VectorOk.f k f b) y ∧ (x = false ∨ x = true ∧ y = false) := by
      rcases h with h | ⟨p, g, t, h, hp⟩
      · exact ⟨_, _, VectorOk_no h a, VectorOk_no h b, .inl rfl⟩
      · refine ⟨_, _, VectorOk_ok h ha, VectorOk_ok h hb, ?_⟩
        revert hp
        cases vk p t a <;> cases vk p t b <;> simp [hl]
    obtain ⟨x, y, ⟨K1, h1⟩, ⟨K2, h2⟩, hxy⟩ := key
    refine ⟨K1 + K2, fun k hk => ?_⟩
    unfold spec_l04Two.f
    rcases hxy with rfl | ⟨rfl, rfl⟩
    · simp (disch := omega) only [h1, w64, tmod_pos, tdiv_pos, ↓if_pos, ↓if_neg, if_pos, if_neg, if_true, if_false, Option.bind_some, Bool.false_eq_true, Bool.not_true, Bool.not_false, ↓reduceIte]
    · simp (disch := omega) only [h1, h2, w64, tmod_pos, tdiv_pos, ↓if_pos, ↓if_neg, if_pos, if_neg, if_true, if_false, Option.bind_some, Bool.false_eq_true, Bool.not_true, Bool.not_false, ↓reduceIte]
  · refine ⟨0, fun k hk => ?_⟩
    unfold spec_l04Two.f
    simp (disch := omega) only [w64, tmod_pos, tdiv_pos, ↓if_pos, ↓if_neg, if_pos, if_neg, if_true, if_false, Option.bind_some, Bool.false_eq_true, Bool.not_true, Bool.not_false, ↓reduceIte]

/-! ### Pointwise -/
def pw (p : Int) (a b : List Int) : List Int := mk a.length fun i => rd a (i : Int) * rd b (i : Int) % p

/-! ### Rotate -/
/-- Where the number at j came from, by places on (0 ≤ s < n). -/
def fro (n s j : Int) : Int := if s ≤ j then j - s else j - s + n
def ro (a : List Int) (s : Int) : List Int := mk a.length fun j => rd a (fro a.length (s % a.length) j)
theorem rot_ix {n i : Nat} {s : Int} (hn : 1 ≤ n) (hi : i < n) : Int.tmod ((i : Int) + Int.tmod s n + n) n = if (i : Int) + s % n < n then (i : Int) + s % n else (i : Int) + s % n - n := by
  have a1 := tmod_lo (x := s) (p := (n : Int)) (by omega)
  have a2 := tmod_hi (x := s) (p := (n : Int)) (by omega)
  have a3 := emod_rng (p := (n : Int)) (by omega) s
  rw [tmod_pos (by omega)]
  have c : Cg (n : Int) ((i : Int) + Int.tmod s n + n) ((i : Int) + s % n) := by
    have := ((Cg.refl (n : Int) (i : Int)).add ((tmod_cg s (n : Int)).trans (Cg.mod (n : Int) s).symm)).add (Cg.self (n : Int))
    simpa using this
  rw [c.emod_eq, ← tmod_pos (by omega), tm_small (by omega) (by omega)]
theorem rot_by {n : Nat} {s : Int} (hn : 1 ≤ n) : Int.tmod (Int.tmod s n + n) n = s % n := by
  have := rot_ix (n := n) (i := 0) (s := s) hn (by omega)
  have a3 := emod_rng (p := (n : Int)) (by omega) s
  rw [if_pos (by omega)] at this
  simpa using this
/-- One number more in its place. -/
theorem rot_step {a x : List Int} {n i m : Nat} {s : Int} {base : Nat → Int} (hx : x.length = n) (hi : i < n) (h0 : 0 ≤ s) (h1 : s < n) (hm : (m : Int) = if (i : Int) + s < n then (i : Int) + s else (i : Int) + s - n)
    (hj : ∀ j : Nat, j < n → rd x (j : Int) = if fro n s j < i then rd a (fro n s j) else base j) :
    ∀ j : Nat, j < n → rd (x.set m (rd a (i : Int))) (j : Int) = if fro n s j < ((i + 1 : Nat) : Int) then rd a (fro n s j) else base j := by
  intro j hjn
  have hmn : m < x.length := by split at hm <;> omega
  rw [rd_set _ _ _ _ hmn]
  by_cases e : m = j
  · have e2 : fro n s j = i := by unfold fro; split at hm <;> split <;> omega
    rw [if_pos e, e2, if_pos (by omega)]
  · have e2 : fro n s j ≠ i := by unfold fro; split at hm <;> split <;> omega
    rw [if_neg e, hj j hjn]
    by_cases c : fro n s j < (i : Int)
    · rw [if_pos c, if_pos (by omega)]
    · rw [if_neg c, if_neg (by omega)]
theorem fro_lt {n s : Int} (h0 : 0 ≤ s) (h1 : s < n) {j : Int} (hj : 0 ≤ j) (hj' : j < n) : 0 ≤ fro n s j ∧ fro n s j < n := by
  unfold fro; split <;> omega
theorem ro_len (a : List Int) (s : Int) : (ro a s).length = a.length := mk_length _ _
theorem pw_len (p : Int) (a b : List Int) : (pw p a b).length = a.length := mk_length _ _

/-! ### Energy -/
/-- The place of -i. -/
def ng (n i : Nat) : Int := if i = 0 then 0 else (n : Int) - i
theorem ng_tm {n i : Nat} (hi : i < n) : Int.tmod ((n : Int) - i) n = ng n i := by
  rw [tm_small (by omega) (by omega)]
  unfold ng
  split <;> split <;> omega
def en (p : Int) (a : List Int) : Nat → Int
  | 0 => 0
  | i + 1 => (en p a i + rd a (i : Int) * rd a (ng a.length i) % p) % p
theorem en_rng {p : Int} (hp : 0 < p) (a : List Int) (i : Nat) : 0 ≤ en p a i ∧ en p a i < p := by
  cases i with
  | zero => exact ⟨Int.le_refl _, hp⟩
  | succ n => exact emod_rng hp _
end

end Go.Proofs.Ytginidfoikheaaa.M
