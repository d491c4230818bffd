import Derived.Test.YtginidfoikheaaaG0
/- What VectorOk, Rotate, Energy, Correlate, Pointwise and Twisted come to, of the program and of the reference. -/
import Derived.Test.YtginidfoikheaaaZFnExactRotateMa
import Derived.Test.YtginidfoikheaaaZFnExactRotateMb
import Derived.Test.YtginidfoikheaaaZFnExactRotateMc
import Derived.Test.YtginidfoikheaaaZFnExactRotateMd
import Derived.Test.YtginidfoikheaaaZFnExactRotateMe
import Derived.Test.YtginidfoikheaaaZFnExactRotateMh
import Derived.Test.YtginidfoikheaaaZFnExactRotateMr
import Derived.Test.YtginidfoikheaaaZFnExactRotateMv
import Derived.Test.YtginidfoikheaaaZFnExactRotateMx
import Derived.Test.YtginidfoikheaaaWWords
import Derived.Test.YtginidfoikheaaaWMore
import Derived.Test.YtginidfoikheaaaZFnExactRotate1
import Derived.Test.YtginidfoikheaaaZFnExactRotate0
import Derived.Test.YtginidfoikheaaaZFnExactRotate2
namespace Go.Proofs.Ytginidfoikheaaa.M
open Go.RowKit Go.Proofs.Ytginidfoikheaaa.P Go.Proofs.YtginidfoikheaaaW.PrintWords Go.Proofs.YtginidfoikheaaaW.PrintLast Go.Proofs.YtginidfoikheaaaW.PrintMore
set_option linter.unusedVariables false
set_option linter.unusedSimpArgs false

theorem vk_n {p t : Int} {l : List Int} (h : vk p t l = true) : 1 ≤ l.length ∧ l.length ≤ 512 := by
  obtain ⟨j, h1, h2, h3, h4⟩ := vk_len h
  have := two_pow_512 h1
  have := Nat.two_pow_pos j
  omega
theorem vec_cases (f : Int) (a : List Int) : (∃ p g t, FI f p g t ∧ vk p t a = true) ∨ ((f < 0 ∨ 9 ≤ f) ∨ ∃ p g t, FI f p g t ∧ vk p t a = false) := by
  rcases FI.cases f with ⟨p, g, t, h⟩ | h
  · cases e : vk p t a
    · exact .inr (.inr ⟨p, g, t, h, e⟩)
    · exact .inl ⟨p, g, t, h, e⟩
  · exact .inr (.inl h)
theorem vec_cases2 (f : Int) (a b : List Int) : (∃ p g t, FI f p g t ∧ vk p t a = true ∧ vk p t b = true ∧ b.length = a.length) ∨ ((f < 0 ∨ 9 ≤ f) ∨ ∃ p g t, FI f p g t ∧ ¬ (vk p t a = true ∧ vk p t b = true ∧ b.length = a.length)) := by
  rcases FI.cases f with ⟨p, g, t, h⟩ | h
  · by_cases e : vk p t a = true ∧ vk p t b = true ∧ b.length = a.length
    · exact .inl ⟨p, g, t, h, e⟩
    · exact .inr (.inr ⟨p, g, t, h, e⟩)
  · exact .inr (.inl h)
/-- The remainder of what is below twice n. -/
theorem tm_small {x n : Int} (h0 : 0 ≤ x) (h1 : x < 2 * n) : Int.tmod x n = if x < n then x else x - n := by
  rw [tmod_pos h0]
  split
  · exact Int.emod_eq_of_lt h0 (by omega)
  · rw [show x = (x - n) + n by omega, Int.add_emod_right, Int.emod_eq_of_lt (by omega) (by omega)]; omega

section
variable {f p g t : Int}
theorem vf1_ok (h : FI f p g t) {a : List Int} (ha : vk p t a = true) : Ev (fun k => impl_vectorField.f k f [a]) (p, g, t, true) := by
  have hn := vk_n ha
  have := vectorField1 h (a := a) (by omega)
  rw [if_pos ha] at this
  exact this
theorem vf1_no {a : List Int} (h : (f < 0 ∨ 9 ≤ f) ∨ ∃ p g t, FI f p g t ∧ vk p t a = false) (ha : a.length ≤ 1048576) : Ev (fun k => impl_vectorField.f k f [a]) (0, 0, 0, false) := by
  rcases h with h | ⟨p, g, t, h, hp⟩
  · exact vectorField_no h [a]
  · have := vectorField1 h ha
    rw [if_neg (by simp [hp])] at this
    exact this
theorem vf2_ok (h : FI f p g t) {a b : List Int} (ha : vk p t a = true) (hb : vk p t b = true) (hl : b.length = a.length) : Ev (fun k => impl_vectorField.f k f [a, b]) (p, g, t, true) := by
  have hn := vk_n ha
  have := vectorField2 h (a := a) (b := b) (by omega) (by omega)
  rw [if_pos ⟨ha, hb, hl⟩] at this
  exact this
theorem vf2_no {a b : List Int} (h : (f < 0 ∨ 9 ≤ f) ∨ ∃ p g t, FI f p g t ∧ ¬ (vk p t a = true ∧ vk p t b = true ∧ b.length = a.length)) (ha : a.length ≤ 1048576) (hb : b.length ≤ 1048576) : Ev (fun k => impl_vectorField.f k f [a, b]) (0, 0, 0, false) := by
  rcases h with h | ⟨p, g, t, h, hp⟩
  · exact vectorField_no h [a, b]
  · have := vectorField2 h ha hb
    rw [if_neg hp] at this
    exact this
theorem VectorOk1 (h : FI f p g t) {a : List Int} (ha : vk p t a = true) : Ev (fun k => spec_VectorOk.f k f a) true := by
  have hn := vk_n ha
  have := VectorOk_ok h (a := a) (by omega)
  rw [ha] at this
  exact this
theorem VectorOk0 {a : List Int} (h : (f < 0 ∨ 9 ≤ f) ∨ ∃ p g t, FI f p g t ∧ vk p t a = false) (ha : a.length ≤ 1048576) : Ev (fun k => spec_VectorOk.f k f a) false := by
  rcases h with h | ⟨p, g, t, h, hp⟩
  · exact VectorOk_no h a
  · have := VectorOk_ok h ha
    rw [hp] at this
    exact this

/-! ### Pointwise -/
def pw (p : Int) (a b : List Int) : List Int := mk a.length fun i => rd a (i : Int) * rd b (i : Int) % p

/-! ### Rotate -/
/-- Where the number at j came from, by places on (0 ≤ s < n). -/
def fro (n s j : Int) : Int := if s ≤ j then j - s else j - s + n
def ro (a : List Int) (s : Int) : List Int := mk a.length fun j => rd a (fro a.length (s % a.length) j)
theorem rot_ix {n i : Nat} {s : Int} (hn : 1 ≤ n) (hi : i < n) : Int.tmod ((i : Int) + Int.tmod s n + n) n = if (i : Int) + s % n < n then (i : Int) + s % n else (i : Int) + s % n - n := by
  have a1 := tmod_lo (x := s) (p := (n : Int)) (by omega)
  have a2 := tmod_hi (x := s) (p := (n : Int)) (by omega)
  have a3 := emod_rng (p := (n : Int)) (by omega) s
  rw [tmod_pos (by omega)]
  have c : Cg (n : Int) ((i : Int) + Int.tmod s n + n) ((i : Int) + s % n) := by
    have := ((Cg.refl (n : Int) (i : Int)).add ((tmod_cg s (n : Int)).trans (Cg.mod (n : Int) s).symm)).add (Cg.self (n : Int))
    simpa using this
  rw [c.emod_eq, ← tmod_pos (by omega), tm_small (by omega) (by omega)]
theorem rot_by {n : Nat} {s : Int} (hn : 1 ≤ n) : Int.tmod (Int.tmod s n + n) n = s % n := by
  have := rot_ix (n := n) (i := 0) (s := s) hn (by omega)
  have a3 := emod_rng (p := (n : Int)) (by omega) s
  rw [if_pos (by omega)] at this
  simpa using this
/-- One number more in its place. -/
theorem rot_step {a x : List Int} {n i m : Nat} {s : Int} {base : Nat → Int} (hx : x.length = n) (hi : i < n) (h0 : 0 ≤ s) (h1 : s < n) (hm : (m : Int) = if (i : Int) + s < n then (i : Int) + s else (i : Int) + s - n)
    (hj : ∀ j : Nat, j < n → rd x (j : Int) = if fro n s j < i then rd a (fro n s j) else base j) :
    ∀ j : Nat, j < n → rd (x.set m (rd a (i : Int))) (j : Int) = if fro n s j < ((i + 1 : Nat) : Int) then rd a (fro n s j) else base j := by
  intro j hjn
  have hmn : m < x.length := by split at hm <;> omega
  rw [rd_set _ _ _ _ hmn]
  by_cases e : m = j
  · have e2 : fro n s j = i := by unfold fro; split at hm <;> split <;> omega
    rw [if_pos e, e2, if_pos (by omega)]
  · have e2 : fro n s j ≠ i := by unfold fro; split at hm <;> split <;> omega
    rw [if_neg e, hj j hjn]
    by_cases c : fro n s j < (i : Int)
    · rw [if_pos c, if_pos (by omega)]
    · rw [if_neg c, if_neg (by omega)]
theorem fro_lt {n s : Int} (h0 : 0 ≤ s) (h1 : s < n) {j : Int} (hj : 0 ≤ j) (hj' : j < n) : 0 ≤ fro n s j ∧ fro n s j < n := by
  unfold fro; split <;> omega
theorem iRot_l0 (a : List Int) (s : Int) (hn : 1 ≤ a.length ∧ a.length ≤ 512) (d : Nat) : ∀ (k i : Nat) (x : List Int), d < k → a.length - i = d → i ≤ a.length → x.length = a.length →
    (∀ j : Nat, j < a.length → rd x (j : Int) = if fro a.length (s % a.length) j < i then rd a (fro a.length (s % a.length) j) else 0) →
    impl_Rotate.l0 k s a.length x a a.length i = some (ro a s) := by
  have a3 := emod_rng (p := (a.length : Int)) (by omega) s
  have a1 := tmod_lo (x := s) (p := (a.length : Int)) (by omega)
  have a2 := tmod_hi (x := s) (p := (a.length : Int)) (by omega)
  induction d with
  | zero =>
    intro k i x hk hd hi hx hj
    obtain ⟨k, rfl⟩ : ∃ m, k = m + 1 := ⟨k - 1, by omega⟩
    obtain rfl : i = a.length := by omega
    simp (disch := omega) only [impl_Rotate.l0, w64, tmod_pos, tdiv_pos, ↓if_pos, ↓if_neg, if_pos, if_neg, if_true, if_false, Option.bind_some, Bool.false_eq_true, Bool.not_true, Bool.not_false, ↓reduceIte]
    congr 1
    refine eq_mk' hx fun j hjn => ?_
    have := fro_lt a3.1 a3.2 (j := (j : Int)) (by omega) (by omega)
    rw [hj j hjn, if_pos this.2]
  | succ d ih =>
    intro k i x hk hd hi hx hj
    obtain ⟨k, rfl⟩ : ∃ m, k = m + 1 := ⟨k - 1, by omega⟩
    have e := rot_ix (n := a.length) (i := i) (s := s) hn.1 (by omega)
    obtain ⟨m, hm⟩ : ∃ m : Nat, (m : Int) = if (i : Int) + s % a.length < a.length then (i : Int) + s % a.length else (i : Int) + s % a.length - a.length :=
      ⟨(if (i : Int) + s % a.length < a.length then (i : Int) + s % a.length else (i : Int) + s % a.length - a.length).toNat, by split <;> omega⟩
    rw [← hm] at e
    have hmn : m < a.length := by split at hm <;> omega
    have st := rot_step (a := a) (x := x) hx (show i < a.length by omega) a3.1 a3.2 hm hj
    simp (disch := omega) only [impl_Rotate.l0, w64, e, Int.toNat_natCast, if_pos, if_neg]
    exact ih k (i + 1) _ (by omega) (by omega) (by omega) (by rw [List.length_set, hx]) st
theorem iRot_ok (h : FI f p g t) {a : List Int} (ha : vk p t a = true) (s : Int) : Ev (fun k => impl_Rotate.f k f a s) (ro a s) := by
  have hn := vk_n ha
  obtain ⟨K1, h1⟩ := vf1_ok h ha
  refine ⟨K1 + 600, fun k hk => ?_⟩
  unfold impl_Rotate.f
  simp (disch := omega) only [h1, Int.toNat_natCast, w64, tmod_pos, tdiv_pos, ↓if_pos, ↓if_neg, if_pos, if_neg, if_true, if_false, Option.bind_some, Bool.false_eq_true, Bool.not_true, Bool.not_false, ↓reduceIte]
  have a3 := emod_rng (p := (a.length : Int)) (by omega) s
  refine iRot_l0 a s hn a.length k 0 _ (by omega) (by omega) (by omega) List.length_replicate fun j hj => ?_
  have := fro_lt a3.1 a3.2 (j := (j : Int)) (by omega) (by omega)
  rw [rd_replicate, if_neg (by omega)]
theorem iRot_no {a : List Int} (h : (f < 0 ∨ 9 ≤ f) ∨ ∃ p g t, FI f p g t ∧ vk p t a = false) (ha : a.length ≤ 1048576) (s : Int) : Ev (fun k => impl_Rotate.f k f a s) [] := by
  obtain ⟨K1, h1⟩ := vf1_no h ha
  refine ⟨K1, fun k hk => ?_⟩
  unfold impl_Rotate.f
  simp (disch := omega) only [h1, w64, tmod_pos, tdiv_pos, ↓if_pos, ↓if_neg, if_pos, if_neg, if_true, if_false, Option.bind_some, Bool.false_eq_true, Bool.not_true, Bool.not_false, ↓reduceIte]
theorem sRot_l0 (a : List Int) (s : Int) (hn : 1 ≤ a.length ∧ a.length ≤ 512) (h0 : 0 ≤ s) (h1 : s < a.length) (d : Nat) : ∀ (k i : Nat) (x : List Int), d < k → a.length - i = d → i ≤ a.length → x.length = a.length →
    (∀ j : Nat, j < a.length → rd x (j : Int) = if fro a.length s j < i then rd a (fro a.length s j) else rd a (j : Int)) →
    spec_Rotate.l0 k a a.length s x i = some (mk a.length fun j => rd a (fro a.length s j)) := by
  induction d with
  | zero =>
    intro k i x hk hd hi hx hj
    obtain ⟨k, rfl⟩ : ∃ m, k = m + 1 := ⟨k - 1, by omega⟩
    obtain rfl : i = a.length := by omega
    simp (disch := omega) only [spec_Rotate.l0, w64, tmod_pos, tdiv_pos, ↓if_pos, ↓if_neg, if_pos, if_neg, if_true, if_false, Option.bind_some, Bool.false_eq_true, Bool.not_true, Bool.not_false, ↓reduceIte]
    congr 1
    refine eq_mk' hx fun j hjn => ?_
    have := fro_lt h0 h1 (j := (j : Int)) (by omega) (by omega)
    rw [hj j hjn, if_pos this.2]
  | succ d ih =>
    intro k i x hk hd hi hx hj
    obtain ⟨k, rfl⟩ : ∃ m, k = m + 1 := ⟨k - 1, by omega⟩
    have e := tm_small (x := (i : Int) + s) (n := (a.length : Int)) (by omega) (by omega)
    obtain ⟨m, hm⟩ : ∃ m : Nat, (m : Int) = if (i : Int) + s < a.length then (i : Int) + s else (i : Int) + s - a.length :=
      ⟨(if (i : Int) + s < a.length then (i : Int) + s else (i : Int) + s - a.length).toNat, by split <;> omega⟩
    rw [← hm] at e
    have hmn : m < a.length := by split at hm <;> omega
    have st := rot_step (a := a) (x := x) hx (show i < a.length by omega) h0 h1 hm hj
    simp (disch := omega) only [spec_Rotate.l0, w64, e, Int.toNat_natCast, if_pos, if_neg]
    exact ih k (i + 1) _ (by omega) (by omega) (by omega) (by rw [List.length_set, hx]) st
theorem sRot_ok (h : FI f p g t) {a : List Int} (ha : vk p t a = true) (s : Int) : Ev (fun k => spec_Rotate.f k f a s) (ro a s) := by
  have hn := vk_n ha
  obtain ⟨K1, h1⟩ := VectorOk1 h ha
  obtain ⟨K2, h2⟩ := l01Copy_ok (l := a) (by omega)
  have a3 := emod_rng (p := (a.length : Int)) (by omega) s
  have a1 := tmod_lo (x := s) (p := (a.length : Int)) (by omega)
  have a2 := tmod_hi (x := s) (p := (a.length : Int)) (by omega)
  refine ⟨K1 + K2 + 600, fun k hk => ?_⟩
  unfold spec_Rotate.f
  have e := rot_by (n := a.length) (s := s) hn.1
  simp (disch := omega) only [h1, h2, Option.bind_some, w64, e, if_pos, if_neg, ↓reduceIte]
  refine sRot_l0 a _ hn a3.1 a3.2 a.length k 0 a (by omega) (by omega) (by omega) rfl fun j hj => ?_
  have := fro_lt a3.1 a3.2 (j := (j : Int)) (by omega) (by omega)
  rw [if_neg (by omega)]
theorem sRot_no {a : List Int} (h : (f < 0 ∨ 9 ≤ f) ∨ ∃ p g t, FI f p g t ∧ vk p t a = false) (ha : a.length ≤ 1048576) (s : Int) : Ev (fun k => spec_Rotate.f k f a s) [] := by
  obtain ⟨K1, h1⟩ := VectorOk0 h ha
  refine ⟨K1, fun k hk => ?_⟩
  unfold spec_Rotate.f
  simp (disch := omega) only [h1, w64, tmod_pos, tdiv_pos, ↓if_pos, ↓if_neg, if_pos, if_neg, if_true, if_false, Option.bind_some, Bool.false_eq_true, Bool.not_true, Bool.not_false, ↓reduceIte]
theorem ro_len (a : List Int) (s : Int) : (ro a s).length = a.length := mk_length _ _
theorem pw_len (p : Int) (a b : List Int) : (pw p a b).length = a.length := mk_length _ _

/-! ### Energy -/
/-- The place of -i. -/
def ng (n i : Nat) : Int := if i = 0 then 0 else (n : Int) - i
theorem ng_tm {n i : Nat} (hi : i < n) : Int.tmod ((n : Int) - i) n = ng n i := by
  rw [tm_small (by omega) (by omega)]
  unfold ng
  split <;> split <;> omega
def en (p : Int) (a : List Int) : Nat → Int
  | 0 => 0
  | i + 1 => (en p a i + rd a (i : Int) * rd a (ng a.length i) % p) % p
theorem en_rng {p : Int} (hp : 0 < p) (a : List Int) (i : Nat) : 0 ≤ en p a i ∧ en p a i < p := by
  cases i with
  | zero => exact ⟨Int.le_refl _, hp⟩
  | succ n => exact emod_rng hp _
end

end Go.Proofs.Ytginidfoikheaaa.M
