import Derived.Test.YtginidfoikheaaaG0
/- Roots of one and square roots: plain, and what IsRoot computes, of the program and of the reference. -/
import Derived.Test.YtginidfoikheaaaZFnRootsTurnMa
import Derived.Test.YtginidfoikheaaaZFnRootsTurnMb
import Derived.Test.YtginidfoikheaaaZFnRootsTurnMc
import Derived.Test.YtginidfoikheaaaZFnRootsTurnMd
import Derived.Test.YtginidfoikheaaaZFnRootsTurnMe
import Derived.Test.YtginidfoikheaaaZFnRootsTurnMh
import Derived.Test.YtginidfoikheaaaZFnRootsTurnMi
import Derived.Test.YtginidfoikheaaaZFnRootsTurnMj
import Derived.Test.YtginidfoikheaaaZFnRootsTurnMo
import Derived.Test.YtginidfoikheaaaWWords
import Derived.Test.YtginidfoikheaaaWMore
import Derived.Test.YtginidfoikheaaaZFnRootsTurn2
import Derived.Test.YtginidfoikheaaaZFnRootsTurn0
namespace Go.Proofs.Ytginidfoikheaaa.M
open Go.RowKit Go.Proofs.Ytginidfoikheaaa.P Go.Proofs.YtginidfoikheaaaW.PrintWords Go.Proofs.YtginidfoikheaaaW.PrintLast Go.Proofs.YtginidfoikheaaaW.PrintMore
set_option linter.unusedVariables false
set_option linter.unusedSimpArgs false

/-- A power modulo p, by halves, to be computed. -/
def mpow (p : Nat) : Nat → Nat → Nat → Nat
  | 0, _, _ => 1
  | f + 1, a, e => if e = 0 then 1 else (if e % 2 = 1 then mpow p f (a * a % p) (e / 2) * a % p else mpow p f (a * a % p) (e / 2))
theorem mpow_ok (p f : Nat) : ∀ (a e : Nat), e < 2 ^ f → Cg (p : Int) (mpow p f a e : Int) ((a : Int) ^ e) := by
  induction f with
  | zero =>
    intro a e he
    obtain rfl : e = 0 := by simp at he; exact he
    exact Cg.refl _ _
  | succ f ih =>
    intro a e he
    rw [Nat.pow_succ] at he
    by_cases h0 : e = 0
    · subst h0
      exact Cg.of_eq (by simp [mpow])
    have h1 := ih (a * a % p) (e / 2) (by omega)
    have h2 : Cg (p : Int) (((a * a % p : Nat) : Int) ^ (e / 2)) (((a : Int) * a) ^ (e / 2)) := by
      refine Cg.pow ?_ _
      rw [Int.natCast_emod, Int.natCast_mul]
      exact Cg.mod _ _
    have key := pow_half (a : Int) e
    by_cases hodd : e % 2 = 1
    · have e1 : mpow p (f + 1) a e = mpow p f (a * a % p) (e / 2) * a % p := by simp only [mpow]; rw [if_neg h0, if_pos hodd]
      rw [if_pos hodd] at key
      rw [e1, key, Int.natCast_emod, Int.natCast_mul]
      exact (Cg.mod _ _).trans ((h1.trans h2).mul (Cg.refl _ _))
    · have e1 : mpow p (f + 1) a e = mpow p f (a * a % p) (e / 2) := by simp only [mpow]; rw [if_neg h0, if_neg hodd]
      rw [if_neg hodd, Int.mul_one] at key
      rw [e1, key]
      exact h1.trans h2

section
variable {f p g t : Int}
/-- The odd part of p - 1, and that the generator is no square. -/
theorem IsF.odd (h : IsF p g t) : ∃ q : Nat, q % 2 = 1 ∧ (p.toNat - 1) = q * 2 ^ t.toNat ∧ Cg p (g ^ (q * 2 ^ (t.toNat - 1))) (-1) := by
  have mk : ∀ (P G T q n : Nat), n = q * 2 ^ (T - 1) → n < 2 ^ 30 → mpow P 30 G n + 1 = P → Cg (P : Int) ((G : Int) ^ (q * 2 ^ (T - 1))) (-1) := by
    intro P G T q n hn hlt he
    have h1 := mpow_ok P 30 G n hlt
    rw [hn] at h1
    refine h1.symm.trans ⟨1, ?_⟩
    rw [← hn]
    omega
  rcases h with ⟨rfl, rfl, rfl⟩ | ⟨rfl, rfl, rfl⟩ | ⟨rfl, rfl, rfl⟩ | ⟨rfl, rfl, rfl⟩ | ⟨rfl, rfl, rfl⟩ | ⟨rfl, rfl, rfl⟩ | ⟨rfl, rfl, rfl⟩ | ⟨rfl, rfl, rfl⟩ | ⟨rfl, rfl, rfl⟩
  · exact ⟨1, by decide, by decide, mk 17 3 4 1 8 (by decide) (by decide) (by decide +kernel)⟩
  · exact ⟨3, by decide, by decide, mk 97 5 5 3 48 (by decide) (by decide) (by decide +kernel)⟩
  · exact ⟨3, by decide, by decide, mk 193 5 6 3 96 (by decide) (by decide) (by decide +kernel)⟩
  · exact ⟨1, by decide, by decide, mk 257 3 8 1 128 (by decide) (by decide) (by decide +kernel)⟩
  · exact ⟨15, by decide, by decide, mk 7681 17 9 15 3840 (by decide) (by decide) (by decide +kernel)⟩
  · exact ⟨3, by decide, by decide, mk 12289 11 12 3 6144 (by decide) (by decide) (by decide +kernel)⟩
  · exact ⟨119, by decide, by decide, mk 998244353 3 23 119 499122176 (by decide) (by decide) (by decide +kernel)⟩
  · exact ⟨7, by decide, by decide, mk 469762049 3 26 7 234881024 (by decide) (by decide) (by decide +kernel)⟩
  · exact ⟨479, by decide, by decide, mk 1004535809 3 21 479 502267904 (by decide) (by decide) (by decide +kernel)⟩
theorem sq_one (h : IsF p g t) {y : Int} (hy : Cg p (y * y) 1) : Cg p y 1 ∨ Cg p y (-1) := by
  by_cases h1 : Cg p (y - 1) 0
  · left
    exact (Cg.of_eq (by omega)).trans ((h1.add (Cg.refl p 1)).trans (Cg.of_eq (by omega)))
  · right
    have h2 : Cg p ((y - 1) * (y + 1)) 0 := (Cg.of_eq (by grind)).trans ((hy.sub (Cg.refl p 1)).trans (Cg.of_eq (by omega)))
    have h3 := h.integral h2 h1
    exact (Cg.of_eq (by omega)).trans ((h3.sub (Cg.refl p 1)).trans (Cg.of_eq (by omega)))
theorem one_ne_neg (h : IsF p g t) : ¬ Cg p 1 (-1) := fun hc => by
  have r := h.rng
  obtain ⟨k, hk⟩ := hc
  have h1 : p * k = 2 := by omega
  have h2 : p ∣ 2 := ⟨k, h1.symm⟩
  have := Int.le_of_dvd (by omega) h2
  omega
theorem dvd_two_pow {k c : Nat} (h : c ∣ 2 ^ k) (hc : c % 2 = 1) : c = 1 := by
  have h1 : Nat.Coprime c 2 := by
    have := Nat.gcd_dvd_right c 2
    have h2 := Nat.le_of_dvd (by decide) this
    have h3 := Nat.gcd_dvd_left c 2
    have h0 : Nat.gcd c 2 ≠ 0 := Nat.gcd_ne_zero_right (by decide)
    have : Nat.gcd c 2 = 1 ∨ Nat.gcd c 2 = 2 := by omega
    rcases this with h4 | h4
    · exact h4
    · rw [h4] at h3
      have := Nat.mod_eq_zero_of_dvd h3
      omega
  exact (h1.pow_right k).eq_one_of_dvd h
theorem ord_two (h : IsF p g t) {a : Int} {k : Nat} (h1 : Cg p (a ^ 2 ^ k) (-1)) : IsOrd p a (2 ^ (k + 1)) := by
  have e : a ^ 2 ^ (k + 1) = a ^ 2 ^ k * a ^ 2 ^ k := by rw [← Int.pow_add, Nat.pow_succ]; congr 1; omega
  have h2 : Cg p (a ^ 2 ^ (k + 1)) 1 := (Cg.of_eq e).trans ((h1.mul h1).trans (Cg.of_eq (by decide)))
  refine ⟨Nat.two_pow_pos _, h2, fun d hd h3 => ?_⟩
  apply Classical.byContradiction
  intro hlt
  have hg := pow_gcd_one (2 ^ (k + 1)) d h2 h3
  obtain ⟨c, hc⟩ := Nat.gcd_dvd_left (2 ^ (k + 1)) d
  have hle := Nat.le_of_dvd hd (Nat.gcd_dvd_right (2 ^ (k + 1)) d)
  have hc1 : c ≠ 1 := by rintro rfl; rw [Nat.mul_one] at hc; omega
  by_cases hodd : c % 2 = 1
  · exact hc1 (dvd_two_pow ⟨_, by rw [Nat.mul_comm]; exact hc⟩ hodd)
  · have e2 : 2 ^ k = Nat.gcd (2 ^ (k + 1)) d * (c / 2) := by
      have h4 : c = 2 * (c / 2) := by omega
      have h5 : 2 ^ (k + 1) = 2 * (Nat.gcd (2 ^ (k + 1)) d * (c / 2)) := by
        conv => lhs; rw [hc, h4]
        rw [Nat.mul_left_comm]
      rw [Nat.pow_succ] at h5 ⊢
      omega
    rw [e2, Int.pow_mul] at h1
    have h6 := (hg.pow (c / 2)).symm.trans h1
    rw [Int.one_pow] at h6
    exact one_ne_neg h h6
theorem two_ord (h : IsF p g t) {a : Int} {k : Nat} (ho : IsOrd p a (2 ^ (k + 1))) : Cg p (a ^ 2 ^ k) (-1) := by
  have e : a ^ 2 ^ (k + 1) = a ^ 2 ^ k * a ^ 2 ^ k := by rw [← Int.pow_add, Nat.pow_succ]; congr 1; omega
  rcases sq_one h ((Cg.of_eq e.symm).trans ho.one) with h1 | h1
  · exfalso
    have := ho.least (2 ^ k) (Nat.two_pow_pos _) h1
    have h2 := Nat.two_pow_pos k
    rw [Nat.pow_succ] at this
    omega
  · exact h1
theorem cg_neg_one (h : IsF p g t) (x : Int) : x % p = p - 1 ↔ Cg p x (-1) := by
  have r := h.rng
  constructor
  · intro e
    exact (Cg.mod p x).symm.trans ((Cg.of_eq e).trans ⟨1, by omega⟩)
  · intro c
    exact (c.trans ⟨-1, by omega⟩).emod_of (by omega) (by omega)
/-- What IsRoot answers where the field has the root and w is an element. -/
def isr (p w : Int) (k : Nat) : Bool := match k with
  | 0 => w == 1
  | k + 1 => w ^ 2 ^ k % p == p - 1
theorem iIsRoot_ok (h : FI f p g t) {w : Int} {k : Nat} (hk : (k : Int) ≤ t) (hw : 0 ≤ w) (hw' : w < p) : Ev (fun n => impl_IsRoot.f n f w k) (isr p w k) := by
  have r := h.isF.rng
  have hd : decide (w ≥ p) = false := decide_eq_false (by omega)
  cases k with
  | zero =>
    refine ⟨1, fun n hn => ?_⟩
    obtain ⟨n, rfl⟩ : ∃ m, n = m + 1 := ⟨n - 1, by omega⟩
    unfold impl_IsRoot.f
    simp (disch := omega) only [fieldOf_ok h, hd, impl_IsRoot.j0, w64, tmod_pos, tdiv_pos, ↓if_pos, ↓if_neg, if_pos, if_neg, if_true, if_false, Option.bind_some, Bool.false_eq_true, Bool.not_true, Bool.not_false, ↓reduceIte]
    rfl
  | succ k =>
    have hp := two_pow_le (show k ≤ 62 by omega)
    have hp0 := two_pow_pos k
    have e0 : shl .i64 1 (k : Int) = 2 ^ k := by rw [shl_one (by omega) (by omega), Int.toNat_natCast]
    obtain ⟨K, hK⟩ := power_ok h.isF hw hw' (e := 2 ^ k) (by omega) (by omega)
    have e1 : ((2 : Int) ^ k).toNat = 2 ^ k := by
      rw [show (2 : Int) ^ k = ((2 ^ k : Nat) : Int) by simp]
      exact Int.toNat_natCast _
    rw [e1] at hK
    have e2 : (((k + 1 : Nat) : Int) - 1) = (k : Int) := by omega
    refine ⟨K + 1, fun n hn => ?_⟩
    obtain ⟨n, rfl⟩ : ∃ m, n = m + 1 := ⟨n - 1, by omega⟩
    unfold impl_IsRoot.f
    simp (disch := omega) only [fieldOf_ok h, hd, impl_IsRoot.j0, e2, e0, hK, w64, tmod_pos, tdiv_pos, ↓if_pos, ↓if_neg, if_pos, if_neg, if_true, if_false, Option.bind_some, Bool.false_eq_true, Bool.not_true, Bool.not_false, ↓reduceIte]
    rfl
theorem iIsRoot_no {w k : Int} (h : FI f p g t) (hk : (k < 0 ∨ t < k) ∨ (w < 0 ∨ p ≤ w)) : Ev (fun n => impl_IsRoot.f n f w k) false := by
  refine ⟨1, fun n hn => ?_⟩
  obtain ⟨n, rfl⟩ : ∃ m, n = m + 1 := ⟨n - 1, by omega⟩
  unfold impl_IsRoot.f
  by_cases h1 : k < 0
  · simp (disch := omega) only [fieldOf_ok h, impl_IsRoot.j0, w64, tmod_pos, tdiv_pos, ↓if_pos, ↓if_neg, if_pos, if_neg, if_true, if_false, Option.bind_some, Bool.false_eq_true, Bool.not_true, Bool.not_false, ↓reduceIte]
  by_cases h2 : k > t
  · simp (disch := omega) only [fieldOf_ok h, impl_IsRoot.j0, w64, tmod_pos, tdiv_pos, ↓if_pos, ↓if_neg, if_pos, if_neg, if_true, if_false, Option.bind_some, Bool.false_eq_true, Bool.not_true, Bool.not_false, ↓reduceIte]
  by_cases h3 : w < 0
  · simp (disch := omega) only [fieldOf_ok h, impl_IsRoot.j0, w64, tmod_pos, tdiv_pos, ↓if_pos, ↓if_neg, if_pos, if_neg, if_true, if_false, Option.bind_some, Bool.false_eq_true, Bool.not_true, Bool.not_false, ↓reduceIte]
  · have hd : decide (w ≥ p) = true := decide_eq_true (by omega)
    simp (disch := omega) only [fieldOf_ok h, impl_IsRoot.j0, hd, w64, tmod_pos, tdiv_pos, ↓if_pos, ↓if_neg, if_pos, if_neg, if_true, if_false, Option.bind_some, Bool.false_eq_true, Bool.not_true, Bool.not_false, ↓reduceIte]
theorem iIsRoot_nof (h : f < 0 ∨ 9 ≤ f) (w k : Int) : Ev (fun n => impl_IsRoot.f n f w k) false := by
  refine ⟨1, fun n hn => ?_⟩
  obtain ⟨n, rfl⟩ : ∃ m, n = m + 1 := ⟨n - 1, by omega⟩
  unfold impl_IsRoot.f
  simp (disch := omega) only [fieldOf_no h, impl_IsRoot.j0, w64, tmod_pos, tdiv_pos, ↓if_pos, ↓if_neg, if_pos, if_neg, if_true, if_false, Option.bind_some, Bool.false_eq_true, Bool.not_true, Bool.not_false, ↓reduceIte]
end

end Go.Proofs.Ytginidfoikheaaa.M
