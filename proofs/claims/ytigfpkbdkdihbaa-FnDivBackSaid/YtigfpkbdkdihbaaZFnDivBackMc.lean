import Derived.Test.YtigfpkbdkdihbaaZFnDivBackG
/- What the functions on elements of the nine fields compute: reduction, sum, difference, product, power, inverse, of the program and of the reference. -/
import Derived.KernelRfl
import Derived.Test.YtigfpkbdkdihbaaZFnDivBackMa
import Derived.Test.YtigfpkbdkdihbaaZFnDivBackMb
import Derived.Test.YtigfpkbdkdihbaaZFnDivBack0
import Derived.Test.YtigfpkbdkdihbaaZFnDivBack4
import Derived.Test.YtigfpkbdkdihbaaZFnDivBack3
import Derived.Test.YtigfpkbdkdihbaaZFnDivBack1
namespace Go.Proofs.Ytigfpkbdkdihbaa.M
open Go.RowKit Go.Proofs.Ytigfpkbdkdihbaa.P Go.Proofs.YtigfpkbdkdihbaaW.PrintWords Go.Proofs.YtigfpkbdkdihbaaW.PrintLast Go.Proofs.YtigfpkbdkdihbaaW.PrintMore
set_option linter.unusedVariables false
set_option linter.unusedSimpArgs false

/-- The field with number f. -/
def FI (f p g t : Int) : Prop :=
  (f = 0 ∧ p = 17 ∧ g = 3 ∧ t = 4) ∨ (f = 1 ∧ p = 97 ∧ g = 5 ∧ t = 5) ∨ (f = 2 ∧ p = 193 ∧ g = 5 ∧ t = 6) ∨ (f = 3 ∧ p = 257 ∧ g = 3 ∧ t = 8) ∨ (f = 4 ∧ p = 7681 ∧ g = 17 ∧ t = 9) ∨ (f = 5 ∧ p = 12289 ∧ g = 11 ∧ t = 12) ∨
  (f = 6 ∧ p = 998244353 ∧ g = 3 ∧ t = 23) ∨ (f = 7 ∧ p = 469762049 ∧ g = 3 ∧ t = 26) ∨ (f = 8 ∧ p = 1004535809 ∧ g = 3 ∧ t = 21)
theorem FI.isF {f p g t : Int} (h : FI f p g t) : IsF p g t := by
  unfold IsF
  rcases h with ⟨rfl, rfl, rfl, rfl⟩ | ⟨rfl, rfl, rfl, rfl⟩ | ⟨rfl, rfl, rfl, rfl⟩ | ⟨rfl, rfl, rfl, rfl⟩ | ⟨rfl, rfl, rfl, rfl⟩ | ⟨rfl, rfl, rfl, rfl⟩ | ⟨rfl, rfl, rfl, rfl⟩ | ⟨rfl, rfl, rfl, rfl⟩ | ⟨rfl, rfl, rfl, rfl⟩ <;> decide
theorem FI.cases (f : Int) : (∃ p g t, FI f p g t) ∨ (f < 0 ∨ 9 ≤ f) := by
  by_cases h : f < 0 ∨ 9 ≤ f
  · exact .inr h
  left
  have : f = 0 ∨ f = 1 ∨ f = 2 ∨ f = 3 ∨ f = 4 ∨ f = 5 ∨ f = 6 ∨ f = 7 ∨ f = 8 := by omega
  rcases this with rfl | rfl | rfl | rfl | rfl | rfl | rfl | rfl | rfl
  · exact ⟨17, 3, 4, by unfold FI; decide⟩
  · exact ⟨97, 5, 5, by unfold FI; decide⟩
  · exact ⟨193, 5, 6, by unfold FI; decide⟩
  · exact ⟨257, 3, 8, by unfold FI; decide⟩
  · exact ⟨7681, 17, 9, by unfold FI; decide⟩
  · exact ⟨12289, 11, 12, by unfold FI; decide⟩
  · exact ⟨998244353, 3, 23, by unfold FI; decide⟩
  · exact ⟨469762049, 3, 26, by unfold FI; decide⟩
  · exact ⟨1004535809, 3, 21, by unfold FI; decide⟩
theorem fieldOf_ok {f p g t : Int} (h : FI f p g t) : impl_fieldOf.f f = some (p, g, t, true) := by
  rcases h with ⟨rfl, rfl, rfl, rfl⟩ | ⟨rfl, rfl, rfl, rfl⟩ | ⟨rfl, rfl, rfl, rfl⟩ | ⟨rfl, rfl, rfl, rfl⟩ | ⟨rfl, rfl, rfl, rfl⟩ | ⟨rfl, rfl, rfl, rfl⟩ | ⟨rfl, rfl, rfl, rfl⟩ | ⟨rfl, rfl, rfl, rfl⟩ | ⟨rfl, rfl, rfl, rfl⟩ <;> rfl
theorem Modulus_ok {f p g t : Int} (h : FI f p g t) : spec_Modulus.f f = some p := by
  rcases h with ⟨rfl, rfl, rfl, rfl⟩ | ⟨rfl, rfl, rfl, rfl⟩ | ⟨rfl, rfl, rfl, rfl⟩ | ⟨rfl, rfl, rfl, rfl⟩ | ⟨rfl, rfl, rfl, rfl⟩ | ⟨rfl, rfl, rfl, rfl⟩ | ⟨rfl, rfl, rfl, rfl⟩ | ⟨rfl, rfl, rfl, rfl⟩ | ⟨rfl, rfl, rfl, rfl⟩ <;> rfl
theorem Modulus_no {f : Int} (h : f < 0 ∨ 9 ≤ f) : spec_Modulus.f f = some 0 := by
  unfold spec_Modulus.f
  simp (disch := omega) only [w64, tmod_pos, tdiv_pos, ↓if_pos, ↓if_neg, if_pos, if_neg, if_true, if_false, Option.bind_some, Bool.false_eq_true, Bool.not_true, Bool.not_false, ↓reduceIte]

section
variable {p g t : Int}
theorem add_ok (h : IsF p g t) {a b : Int} (ha : 0 ≤ a) (ha' : a < p) (hb : 0 ≤ b) (hb' : b < p) : impl_field_add.f p g t a b = some ((a + b) % p) := by
  have r := h.rng
  unfold impl_field_add.f
  simp (disch := omega) only [w64, tmod_pos, tdiv_pos, ↓if_pos, ↓if_neg, if_pos, if_neg, if_true, if_false, Option.bind_some, Bool.false_eq_true, Bool.not_true, Bool.not_false, ↓reduceIte]
theorem sub_ok (h : IsF p g t) {a b : Int} (ha : 0 ≤ a) (ha' : a < p) (hb : 0 ≤ b) (hb' : b < p) : impl_field_sub.f p g t a b = some ((a - b) % p) := by
  have r := h.rng
  unfold impl_field_sub.f
  simp (disch := omega) only [w64, tmod_pos, tdiv_pos, ↓if_pos, ↓if_neg, if_pos, if_neg, if_true, if_false, Option.bind_some, Bool.false_eq_true, Bool.not_true, Bool.not_false, ↓reduceIte]
  congr 1
  exact (((Cg.refl p (a - b)).add (Cg.self p)).trans (Cg.of_eq (by omega))).emod_eq
theorem mul_ok (h : IsF p g t) {a b : Int} (ha : 0 ≤ a) (ha' : a < p) (hb : 0 ≤ b) (hb' : b < p) : impl_field_mul.f p g t a b = some (a * b % p) := by
  have r := h.rng
  have m := mul_rng (p := p) (by omega) ha ha' hb hb'
  unfold impl_field_mul.f
  simp (disch := omega) only [w64, tmod_pos, tdiv_pos, ↓if_pos, ↓if_neg, if_pos, if_neg, if_true, if_false, Option.bind_some, Bool.false_eq_true, Bool.not_true, Bool.not_false, ↓reduceIte]
theorem power_l0 (h : IsF p g t) (n : Nat) : ∀ (k : Nat) (a e out : Int), e.toNat ≤ n → n < k → 0 ≤ e → e ≤ 9223372036854775807 → 0 ≤ a → a < p → 0 ≤ out → out < p →
    impl_field_power.l0 k a e out p g t = some (out * a ^ e.toNat % p) := by
  have r := h.rng
  induction n with
  | zero =>
    intro k a e out hn hk h0 h1 ha ha' ho ho'
    obtain ⟨k, rfl⟩ : ∃ m, k = m + 1 := ⟨k - 1, by omega⟩
    obtain rfl : e = 0 := by omega
    simp (disch := omega) only [impl_field_power.l0, w64, tmod_pos, tdiv_pos, ↓if_pos, ↓if_neg, if_pos, if_neg, if_true, if_false, Option.bind_some, Bool.false_eq_true, Bool.not_true, Bool.not_false, ↓reduceIte]
    simp [Int.emod_eq_of_lt ho ho']
  | succ n ih =>
    intro k a e out hn hk h0 h1 ha ha' ho ho'
    obtain ⟨k, rfl⟩ : ∃ m, k = m + 1 := ⟨k - 1, by omega⟩
    by_cases he : e = 0
    · subst he
      simp (disch := omega) only [impl_field_power.l0, w64, tmod_pos, tdiv_pos, ↓if_pos, ↓if_neg, if_pos, if_neg, if_true, if_false, Option.bind_some, Bool.false_eq_true, Bool.not_true, Bool.not_false, ↓reduceIte]
      simp [Int.emod_eq_of_lt ho ho']
    have q := emod_rng (p := p) (by omega) (a * a)
    have q' := emod_rng (p := p) (by omega) (out * a)
    have hh : (e / 2).toNat = e.toNat / 2 := by omega
    have key := pow_half a e.toNat
    have c2 : Cg p ((a * a % p) ^ (e.toNat / 2)) ((a * a) ^ (e.toNat / 2)) := (Cg.mod p (a * a)).pow _
    by_cases hodd : e % 2 = 1
    · have hodd' : e.toNat % 2 = 1 := by omega
      simp (disch := omega) only [impl_field_power.l0, mul_ok h ho ho' ha ha', mul_ok h ha ha' ha ha', w64, tmod_pos, tdiv_pos, ↓if_pos, ↓if_neg, if_pos, if_neg, if_true, if_false, Option.bind_some, Bool.false_eq_true, Bool.not_true, Bool.not_false, ↓reduceIte]
      rw [ih k (a * a % p) (e / 2) (out * a % p) (by omega) (by omega) (by omega) (by omega) q.1 q.2 q'.1 q'.2, hh]
      congr 1
      rw [if_pos hodd'] at key
      refine (((Cg.mod p (out * a)).mul c2).trans (Cg.of_eq ?_)).emod_eq
      rw [key]; grind
    · have hodd' : ¬ e.toNat % 2 = 1 := by omega
      simp (disch := omega) only [impl_field_power.l0, mul_ok h ha ha' ha ha', w64, tmod_pos, tdiv_pos, ↓if_pos, ↓if_neg, if_pos, if_neg, if_true, if_false, Option.bind_some, Bool.false_eq_true, Bool.not_true, Bool.not_false, ↓reduceIte]
      rw [ih k (a * a % p) (e / 2) out (by omega) (by omega) (by omega) (by omega) q.1 q.2 ho ho', hh]
      congr 1
      rw [if_neg hodd'] at key
      refine (((Cg.refl p out).mul c2).trans (Cg.of_eq ?_)).emod_eq
      rw [key]; grind
theorem power_ok (h : IsF p g t) {a e : Int} (ha : 0 ≤ a) (ha' : a < p) (h0 : 0 ≤ e) (h1 : e ≤ 9223372036854775807) : Ev (fun k => impl_field_power.f k p g t a e) (a ^ e.toNat % p) := by
  have r := h.rng
  refine ⟨e.toNat + 1, fun k hk => ?_⟩
  unfold impl_field_power.f
  dsimp only
  rw [power_l0 h e.toNat k a e 1 (Nat.le_refl _) (by omega) h0 h1 ha ha' (by omega) (by omega), Int.one_mul]
theorem inverse_ok (h : IsF p g t) {a : Int} (ha : 0 ≤ a) (ha' : a < p) : Ev (fun k => impl_field_inverse.f k p g t a) (a ^ (p.toNat - 2) % p) := by
  have r := h.rng
  obtain ⟨K, hK⟩ := power_ok h ha ha' (e := p - 2) (by omega) (by omega)
  refine ⟨K, fun k hk => ?_⟩
  unfold impl_field_inverse.f
  simp (disch := omega) only [hK, w64, tmod_pos, tdiv_pos, ↓if_pos, ↓if_neg, if_pos, if_neg, if_true, if_false, Option.bind_some, Bool.false_eq_true, Bool.not_true, Bool.not_false, ↓reduceIte]
  rw [show (p - 2).toNat = p.toNat - 2 by omega]
end

/-! ### the reference's -/
section
variable {f p g t : Int}
end

end Go.Proofs.Ytigfpkbdkdihbaa.M
