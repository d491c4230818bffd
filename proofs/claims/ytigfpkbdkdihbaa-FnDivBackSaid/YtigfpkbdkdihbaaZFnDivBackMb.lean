/- Small words on wrapped arithmetic and on elements of a prime field: no program in sight. -/
import Derived.RowKit
import Derived.Test.YtigfpkbdkdihbaaZFnDivBackWWords
import Derived.Test.YtigfpkbdkdihbaaZFnDivBackWMore
import Derived.Test.YtigfpkbdkdihbaaZFnDivBackMa
namespace Go.Proofs.Ytigfpkbdkdihbaa.M
open Go.RowKit Go.Proofs.YtigfpkbdkdihbaaW.PrintWords Go.Proofs.YtigfpkbdkdihbaaW.PrintLast Go.Proofs.YtigfpkbdkdihbaaW.PrintMore
set_option linter.unusedVariables false

theorem w64 {x : Int} (h : -9223372036854775808 ≤ x) (h' : x ≤ 9223372036854775807) : wrap64 x = x := by unfold wrap64; omega
theorem tmod_pos {x y : Int} (h : 0 ≤ x) : Int.tmod x y = x % y := Int.tmod_eq_emod_of_nonneg h
theorem tdiv_pos {x y : Int} (h : 0 ≤ x) : Int.tdiv x y = x / y := Int.tdiv_eq_ediv_of_nonneg h
theorem tmod_lo {x p : Int} (hp : 0 < p) : -p < Int.tmod x p := Int.lt_tmod_of_pos x hp
theorem tmod_hi {x p : Int} (hp : 0 < p) : Int.tmod x p < p := Int.tmod_lt_of_pos x hp
theorem mul_rng {p a b : Int} (hp : p ≤ 1073741824) (ha : 0 ≤ a) (ha' : a < p) (hb : 0 ≤ b) (hb' : b < p) : 0 ≤ a * b ∧ a * b ≤ 1152921504606846976 := by
  refine ⟨Int.mul_nonneg ha hb, ?_⟩
  have := Int.mul_le_mul (show a ≤ 1073741824 by omega) (show b ≤ 1073741824 by omega) hb (by omega)
  omega
theorem emod_rng {p : Int} (hp : 0 < p) (a : Int) : 0 ≤ a % p ∧ a % p < p := ⟨Int.emod_nonneg a (by omega), Int.emod_lt_of_pos a hp⟩
/-- a^n by halves. -/
theorem pow_half (a : Int) (n : Nat) : a ^ n = (a * a) ^ (n / 2) * (if n % 2 = 1 then a else 1) := by
  have e : a ^ n = a ^ (2 * (n / 2) + n % 2) := by congr 1; omega
  rw [e, Int.pow_add, Int.pow_mul, show a ^ 2 = a * a by rw [Int.pow_succ, Int.pow_succ]; simp]
  rcases Nat.mod_two_eq_zero_or_one n with h | h <;> simp [h, Int.pow_succ]

/-- The nine fields: modulus, generator, how often 2 divides the modulus less 1. -/
def IsF (p g t : Int) : Prop :=
  (p = 17 ∧ g = 3 ∧ t = 4) ∨ (p = 97 ∧ g = 5 ∧ t = 5) ∨ (p = 193 ∧ g = 5 ∧ t = 6) ∨ (p = 257 ∧ g = 3 ∧ t = 8) ∨ (p = 7681 ∧ g = 17 ∧ t = 9) ∨ (p = 12289 ∧ g = 11 ∧ t = 12) ∨
  (p = 998244353 ∧ g = 3 ∧ t = 23) ∨ (p = 469762049 ∧ g = 3 ∧ t = 26) ∨ (p = 1004535809 ∧ g = 3 ∧ t = 21)
theorem IsF.rng {p g t : Int} (h : IsF p g t) : 17 ≤ p ∧ p ≤ 1004535809 ∧ 2 ≤ g ∧ g < p ∧ 4 ≤ t ∧ t ≤ 26 := by unfold IsF at h; omega
theorem IsF.prm {p g t : Int} (h : IsF p g t) : Prm p.toNat := by
  rcases h with ⟨rfl, _⟩ | ⟨rfl, _⟩ | ⟨rfl, _⟩ | ⟨rfl, _⟩ | ⟨rfl, _⟩ | ⟨rfl, _⟩ | ⟨rfl, _⟩ | ⟨rfl, _⟩ | ⟨rfl, _⟩
  · exact Prm.of_nodiv (n := 2) (by decide) (by decide) (by decide +kernel) (by decide)
  · exact Prm.of_nodiv (n := 4) (by decide) (by decide) (by decide +kernel) (by decide)
  · exact Prm.of_nodiv (n := 4) (by decide) (by decide) (by decide +kernel) (by decide)
  · exact Prm.of_nodiv (n := 4) (by decide) (by decide) (by decide +kernel) (by decide)
  · exact Prm.of_nodiv (n := 7) (by decide) (by decide) (by decide +kernel) (by decide)
  · exact Prm.of_nodiv (n := 7) (by decide) (by decide) (by decide +kernel) (by decide)
  · exact Prm.of_nodiv (n := 15) (by decide) (by decide) (by decide +kernel) (by decide)
  · exact Prm.of_nodiv (n := 15) (by decide) (by decide) (by decide +kernel) (by decide)
  · exact Prm.of_nodiv (n := 15) (by decide) (by decide) (by decide +kernel) (by decide)
theorem IsF.flt {p g t : Int} (h : IsF p g t) {a : Int} (ha : ¬ Cg p a 0) : Cg p (a ^ (p.toNat - 1)) 1 := by
  have := h.rng
  have e : ((p.toNat : Nat) : Int) = p := Int.toNat_of_nonneg (by omega)
  have h1 := flt1 h.prm a (by rw [e]; exact ha)
  rwa [e] at h1
/-- No zero divisors. -/
theorem IsF.integral {p g t : Int} (h : IsF p g t) {a b : Int} (hab : Cg p (a * b) 0) (ha : ¬ Cg p a 0) : Cg p b 0 := by
  have r := h.rng
  have h1 := h.flt ha
  obtain ⟨n, hn⟩ : ∃ n, p.toNat - 1 = n + 1 := ⟨p.toNat - 2, by omega⟩
  rw [hn, Int.pow_succ] at h1
  have h2 : Cg p (a ^ n * a * b) (1 * b) := h1.mul (Cg.refl p b)
  have h3 : Cg p (a ^ n * (a * b)) (a ^ n * 0) := (Cg.refl p (a ^ n)).mul hab
  refine Cg.trans ?_ (h3.trans (Cg.of_eq (by simp)))
  refine (Cg.trans (Cg.of_eq ?_) h2.symm).trans (Cg.of_eq ?_)
  · simp
  · grind
theorem IsF.cg0 {p g t : Int} (h : IsF p g t) {a : Int} (h0 : 0 ≤ a) (h1 : a < p) : Cg p a 0 ↔ a = 0 :=
  ⟨fun hc => hc.eq h0 h1 (by omega) (by have := h.rng; omega), fun e => Cg.of_eq e⟩

end Go.Proofs.Ytigfpkbdkdihbaa.M
