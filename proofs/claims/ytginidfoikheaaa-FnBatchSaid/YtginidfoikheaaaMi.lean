/- What Dot, BatchInverse, Permute, RootOf, Roots and RootSum compute, of the program and of the reference. -/
import Derived.Test.YtginidfoikheaaaMa
import Derived.Test.YtginidfoikheaaaMb
import Derived.Test.YtginidfoikheaaaMc
import Derived.Test.YtginidfoikheaaaMd
import Derived.Test.YtginidfoikheaaaMe
import Derived.Test.YtginidfoikheaaaMh
import Derived.Test.YtginidfoikheaaaWWords
import Derived.Test.YtginidfoikheaaaWMore
import Derived.Test.YtginidfoikheaaaGF012
import Derived.Test.YtginidfoikheaaaGF010
import Derived.Test.YtginidfoikheaaaGF011
namespace Go.Proofs.Ytginidfoikheaaa.M
open Go.RowKit Go.Proofs.Ytginidfoikheaaa.P Go.Proofs.YtginidfoikheaaaW.PrintWords Go.Proofs.YtginidfoikheaaaW.PrintLast Go.Proofs.YtginidfoikheaaaW.PrintMore
set_option linter.unusedVariables false
set_option linter.unusedSimpArgs false

theorem mn_of_le {a b : Int} (h : a ≤ b) : mn a b = a := by unfold mn; rw [if_neg (by omega)]
theorem mn_of_lt {a b : Int} (h : b < a) : mn a b = b := by unfold mn; rw [if_pos h]
theorem mn_le (a b : Int) : mn a b ≤ a ∧ mn a b ≤ b := by unfold mn; split <;> omega
theorem mn_min (a b : Nat) : mn (a : Int) (b : Int) = ((min a b : Nat) : Int) := by unfold mn; split <;> omega

/-! ### Dot -/
/-- The sum of the first n products. -/
def ds (p : Int) (a b : List Int) : Nat → Int
  | 0 => 0
  | n + 1 => (ds p a b n + rd a (n : Int) * rd b (n : Int) % p) % p
theorem ds_rng {p : Int} (hp : 0 < p) (a b : List Int) (n : Nat) : 0 ≤ ds p a b n ∧ ds p a b n < p := by
  cases n with
  | zero => exact ⟨Int.le_refl _, hp⟩
  | succ n => exact emod_rng hp _
section
variable {f p g t : Int}
theorem iDot_l0 (h : IsF p g t) (a b : List Int) (ha : a.length ≤ 4096) (hb : b.length ≤ 4096) (d : Nat) : ∀ (k i : Nat), d < k → min a.length b.length - i = d → i ≤ min a.length b.length →
    impl_Dot.l0 k a b (ds p a b i) ((min a.length b.length : Nat) : Int) i p g t = some (ds p a b (min a.length b.length)) := by
  have r := h.rng
  induction d with
  | zero =>
    intro k i hk hd hi
    obtain ⟨k, rfl⟩ : ∃ m, k = m + 1 := ⟨k - 1, by omega⟩
    obtain rfl : i = min a.length b.length := by omega
    simp (disch := omega) only [impl_Dot.l0, w64, tmod_pos, tdiv_pos, ↓if_pos, ↓if_neg, if_pos, if_neg, if_true, if_false, Option.bind_some, Bool.false_eq_true, Bool.not_true, Bool.not_false, ↓reduceIte]
  | succ d ih =>
    intro k i hk hd hi
    obtain ⟨k, rfl⟩ : ∃ m, k = m + 1 := ⟨k - 1, by omega⟩
    have hia : i < a.length := by omega
    have hib : i < b.length := by omega
    have q := emod_rng (p := p) (by omega) (rd a (i : Int))
    have q' := emod_rng (p := p) (by omega) (rd b (i : Int))
    have q2 := emod_rng (p := p) (by omega) (rd a (i : Int) * rd b (i : Int))
    have q3 := ds_rng (p := p) (by omega) a b i
    simp (disch := omega) only [impl_Dot.l0, reduce_ok h, mul_ok h q.1 q.2 q'.1 q'.2, w64, tmod_pos, tdiv_pos, ↓if_pos, ↓if_neg, if_pos, if_neg, if_true, if_false, Option.bind_some, Bool.false_eq_true, Bool.not_true, Bool.not_false, ↓reduceIte]
    rw [← Int.mul_emod, add_ok h q3.1 q3.2 q2.1 q2.2]
    simp (disch := omega) only [w64, tmod_pos, tdiv_pos, ↓if_pos, ↓if_neg, if_pos, if_neg, if_true, if_false, Option.bind_some, Bool.false_eq_true, Bool.not_true, Bool.not_false, ↓reduceIte]
    exact ih k (i + 1) (by omega) (by omega) (by omega)
theorem iDot_ok (h : FI f p g t) {a b : List Int} (ha : a.length ≤ 4096) (hb : b.length ≤ 4096) : Ev (fun k => impl_Dot.f k f a b) (ds p a b (min a.length b.length)) := by
  have hd : decide ((b.length : Int) > 4096) = false := decide_eq_false (by omega)
  refine ⟨4099, fun k hk => ?_⟩
  obtain ⟨k, rfl⟩ : ∃ m, k = m + 1 := ⟨k - 1, by omega⟩
  unfold impl_Dot.f
  simp (disch := omega) only [fieldOf_ok h, hd, impl_Dot.j0, mn_min, w64, tmod_pos, tdiv_pos, ↓if_pos, ↓if_neg, if_pos, if_neg, if_true, if_false, Option.bind_some, Bool.false_eq_true, Bool.not_true, Bool.not_false, ↓reduceIte]
  exact iDot_l0 h.isF a b ha hb (min a.length b.length) k 0 (by omega) (by omega) (by omega)
theorem iDot_no {a b : List Int} (h : (f < 0 ∨ 9 ≤ f) ∨ 4096 < a.length ∨ 4096 < b.length) : Ev (fun k => impl_Dot.f k f a b) (-1) := by
  refine ⟨1, fun k hk => ?_⟩
  obtain ⟨k, rfl⟩ : ∃ m, k = m + 1 := ⟨k - 1, by omega⟩
  unfold impl_Dot.f
  rcases FI.cases f with ⟨p, g, t, hf⟩ | hf
  · have hr := hf.f_rng
    by_cases ha : 4096 < a.length
    · simp (disch := omega) only [fieldOf_ok hf, impl_Dot.j0, w64, tmod_pos, tdiv_pos, ↓if_pos, ↓if_neg, if_pos, if_neg, if_true, if_false, Option.bind_some, Bool.false_eq_true, Bool.not_true, Bool.not_false, ↓reduceIte]
    · have hd : decide ((b.length : Int) > 4096) = true := decide_eq_true (by omega)
      simp (disch := omega) only [fieldOf_ok hf, impl_Dot.j0, hd, w64, tmod_pos, tdiv_pos, ↓if_pos, ↓if_neg, if_pos, if_neg, if_true, if_false, Option.bind_some, Bool.false_eq_true, Bool.not_true, Bool.not_false, ↓reduceIte]
  · simp (disch := omega) only [fieldOf_no hf, impl_Dot.j0, w64, tmod_pos, tdiv_pos, ↓if_pos, ↓if_neg, if_pos, if_neg, if_true, if_false, Option.bind_some, Bool.false_eq_true, Bool.not_true, Bool.not_false, ↓reduceIte]

/-! ### BatchInverse -/
/-- The inverse, 0 for 0. -/
def iv (p x : Int) : Int := (x % p) ^ (p.toNat - 2) % p
theorem iv_rng {p : Int} (hp : 0 < p) (x : Int) : 0 ≤ iv p x ∧ iv p x < p := emod_rng hp _
theorem iv_zero (h : IsF p g t) {x : Int} (hx : Cg p x 0) : iv p x = 0 := by
  have r := h.rng
  obtain ⟨n, hn⟩ : ∃ n, p.toNat - 2 = n + 1 := ⟨p.toNat - 3, by omega⟩
  unfold iv
  rw [hn, hx.emod_of (by omega) (by omega), Int.pow_succ]
  simp
theorem iv_mul (h : IsF p g t) {x : Int} (hx : ¬ Cg p x 0) : Cg p (iv p x * x) 1 := by
  have r := h.rng
  have e : p.toNat - 1 = (p.toNat - 2) + 1 := by omega
  have h1 := h.flt hx
  rw [e, Int.pow_succ] at h1
  exact (((Cg.mod p _).trans ((Cg.mod p x).pow _)).mul (Cg.refl p x)).trans h1
theorem iBatch_l0 (h : IsF p g t) (l : List Int) (hl : l.length ≤ 4096) (d : Nat) : ∃ K, ∀ (k i : Nat), K + d < k → l.length - i = d → i ≤ l.length →
    impl_BatchInverse.l0 k ((l.take i).map (iv p)) l l.length i p g t = some (l.map (iv p)) := by
  have r := h.rng
  induction d with
  | zero =>
    refine ⟨0, fun k i hk hd hi => ?_⟩
    obtain ⟨k, rfl⟩ : ∃ m, k = m + 1 := ⟨k - 1, by omega⟩
    obtain rfl : i = l.length := by omega
    simp (disch := omega) only [impl_BatchInverse.l0, w64, tmod_pos, tdiv_pos, ↓if_pos, ↓if_neg, if_pos, if_neg, if_true, if_false, Option.bind_some, Bool.false_eq_true, Bool.not_true, Bool.not_false, ↓reduceIte]
    rw [List.take_of_length_le (by omega)]
  | succ d ih =>
    obtain ⟨K, ih⟩ := ih
    by_cases hd1 : d < l.length
    · have q := emod_rng (p := p) (by omega) (rd l ((l.length - (d + 1) : Nat) : Int))
      obtain ⟨K', hK'⟩ := inverse_ok h q.1 q.2
      refine ⟨K + K', fun k i hk hd hi => ?_⟩
      obtain ⟨k, rfl⟩ : ∃ m, k = m + 1 := ⟨k - 1, by omega⟩
      obtain rfl : i = l.length - (d + 1) := by omega
      have hlen : ((l.take (l.length - (d + 1))).map (iv p)).length = l.length - (d + 1) := by rw [List.length_map, List.length_take]; omega
      have e : (l.take (l.length - (d + 1) + 1)).map (iv p) = (l.take (l.length - (d + 1))).map (iv p) ++ [iv p (rd l ((l.length - (d + 1) : Nat) : Int))] := by
        rw [take_rd (l := l) (by omega), List.map_append]; rfl
      have h3 := ih k (l.length - (d + 1) + 1) (by omega) (by omega) (by omega)
      rw [e] at h3
      simp (disch := omega) only [impl_BatchInverse.l0, reduce_ok h, hK', w64, tmod_pos, tdiv_pos, ↓if_pos, ↓if_neg, if_pos, if_neg, if_true, if_false, Option.bind_some, Bool.false_eq_true, Bool.not_true, Bool.not_false, ↓reduceIte]
      exact h3
    · exact ⟨0, fun k i hk hd hi => by omega⟩
theorem iBatch_ok (h : FI f p g t) {l : List Int} (hl : l.length ≤ 4096) : Ev (fun k => impl_BatchInverse.f k f l) (l.map (iv p)) := by
  have hd : decide ((l.length : Int) > 4096) = false := decide_eq_false (by omega)
  obtain ⟨K, hK⟩ := iBatch_l0 h.isF l hl l.length
  refine ⟨K + l.length + 2, fun k hk => ?_⟩
  obtain ⟨k, rfl⟩ : ∃ m, k = m + 1 := ⟨k - 1, by omega⟩
  unfold impl_BatchInverse.f
  simp (disch := omega) only [fieldOf_ok h, hd, impl_BatchInverse.j0, w64, tmod_pos, tdiv_pos, ↓if_pos, ↓if_neg, if_pos, if_neg, if_true, if_false, Option.bind_some, Bool.false_eq_true, Bool.not_true, Bool.not_false, ↓reduceIte]
  exact hK k 0 (by omega) (by omega) (by omega)
theorem iBatch_no {l : List Int} (h : (f < 0 ∨ 9 ≤ f) ∨ 4096 < l.length) : Ev (fun k => impl_BatchInverse.f k f l) [] := by
  refine ⟨1, fun k hk => ?_⟩
  obtain ⟨k, rfl⟩ : ∃ m, k = m + 1 := ⟨k - 1, by omega⟩
  unfold impl_BatchInverse.f
  rcases FI.cases f with ⟨p, g, t, hf⟩ | hf
  · have hr := hf.f_rng
    have hd : decide ((l.length : Int) > 4096) = true := decide_eq_true (by omega)
    simp (disch := omega) only [fieldOf_ok hf, impl_BatchInverse.j0, hd, w64, tmod_pos, tdiv_pos, ↓if_pos, ↓if_neg, if_pos, if_neg, if_true, if_false, Option.bind_some, Bool.false_eq_true, Bool.not_true, Bool.not_false, ↓reduceIte]
  · simp (disch := omega) only [fieldOf_no hf, impl_BatchInverse.j0, w64, tmod_pos, tdiv_pos, ↓if_pos, ↓if_neg, if_pos, if_neg, if_true, if_false, Option.bind_some, Bool.false_eq_true, Bool.not_true, Bool.not_false, ↓reduceIte]
end

end Go.Proofs.Ytginidfoikheaaa.M
