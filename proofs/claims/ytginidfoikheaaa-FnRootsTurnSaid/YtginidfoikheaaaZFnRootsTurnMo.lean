import Derived.Test.YtginidfoikheaaaG0
/- The order of an element: plain, and what Order computes, of the program and of the reference. -/
import Derived.Test.YtginidfoikheaaaZFnRootsTurnMa
import Derived.Test.YtginidfoikheaaaZFnRootsTurnMb
import Derived.Test.YtginidfoikheaaaZFnRootsTurnMc
import Derived.Test.YtginidfoikheaaaZFnRootsTurnMd
import Derived.Test.YtginidfoikheaaaZFnRootsTurnMe
import Derived.Test.YtginidfoikheaaaWWords
import Derived.Test.YtginidfoikheaaaWMore
namespace Go.Proofs.Ytginidfoikheaaa.M
open Go.RowKit Go.Proofs.Ytginidfoikheaaa.P Go.Proofs.YtginidfoikheaaaW.PrintWords Go.Proofs.YtginidfoikheaaaW.PrintLast Go.Proofs.YtginidfoikheaaaW.PrintMore
set_option linter.unusedVariables false
set_option linter.unusedSimpArgs false

/-- The least positive exponent with the power 1. -/
structure IsOrd (p a : Int) (n : Nat) : Prop where
  pos : 0 < n
  one : Cg p (a ^ n) 1
  least : ∀ d, 0 < d → Cg p (a ^ d) 1 → n ≤ d
theorem IsOrd.uniq {p a : Int} {n m : Nat} (h : IsOrd p a n) (h' : IsOrd p a m) : n = m :=
  Nat.le_antisymm (h.least m h'.pos h'.one) (h'.least n h.pos h.one)
theorem pow_mod_one {p a : Int} {x y : Nat} (hx : Cg p (a ^ x) 1) (hy : Cg p (a ^ y) 1) : Cg p (a ^ (x % y)) 1 := by
  have e : a ^ x = (a ^ y) ^ (x / y) * a ^ (x % y) := by rw [← Int.pow_mul, ← Int.pow_add, Nat.div_add_mod]
  have h1 : Cg p (a ^ x) (1 ^ (x / y) * a ^ (x % y)) := (Cg.of_eq e).trans ((hy.pow (x / y)).mul (Cg.refl p _))
  rw [Int.one_pow, Int.one_mul] at h1
  exact h1.symm.trans hx
theorem IsOrd.dvd {p a : Int} {n d : Nat} (h : IsOrd p a n) (hd : Cg p (a ^ d) 1) : n ∣ d := by
  by_cases h0 : d % n = 0
  · exact Nat.dvd_of_mod_eq_zero h0
  · have := h.least (d % n) (Nat.pos_of_ne_zero h0) (pow_mod_one hd h.one)
    have := Nat.mod_lt d h.pos
    omega
theorem pow_gcd_one {p a : Int} : ∀ (x y : Nat), Cg p (a ^ x) 1 → Cg p (a ^ y) 1 → Cg p (a ^ Nat.gcd x y) 1 := by
  intro x
  induction x using Nat.strongRecOn with
  | ind x ih =>
    intro y hx hy
    by_cases h0 : x = 0
    · subst h0; rw [Nat.gcd_zero_left]; exact hy
    · rw [Nat.gcd_rec]
      exact ih (y % x) (Nat.mod_lt _ (by omega)) x (pow_mod_one hy hx) hx
theorem exists_prime (n : Nat) (h : 2 ≤ n) : ∃ q, Prm q ∧ q ∣ n := by
  induction n using Nat.strongRecOn with
  | ind n ih =>
    by_cases hp : Prm n
    · exact ⟨n, hp, Nat.dvd_refl n⟩
    · have : ∃ d, d ∣ n ∧ d ≠ 1 ∧ d ≠ n := by
        apply Classical.byContradiction
        intro hc
        apply hp
        refine ⟨h, fun d hd => ?_⟩
        by_cases h1 : d = 1
        · exact .inl h1
        by_cases h2 : d = n
        · exact .inr h2
        exact absurd ⟨d, hd, h1, h2⟩ hc
      obtain ⟨d, hd, h1, h2⟩ := this
      have hle := Nat.le_of_dvd (by omega) hd
      have h0 : d ≠ 0 := by rintro rfl; simp at hd; omega
      obtain ⟨q, hq, hqd⟩ := ih d (by omega) (by omega)
      exact ⟨q, hq, Nat.dvd_trans hqd hd⟩
/-- What the search holds on to: 'out' is 'left' times a part whose primes are settled. -/
def OI (p a : Int) (out left : Nat) : Prop := ∃ c, out = left * c ∧ 0 < left ∧ 0 < c ∧ Cg p (a ^ out) 1 ∧ ∀ r, Prm r → r ∣ c → ¬ Cg p (a ^ (out / r)) 1
theorem OI.start {p a : Int} {n : Nat} (hn : 0 < n) (h : Cg p (a ^ n) 1) : OI p a n n :=
  ⟨1, by simp, hn, by decide, h, fun r hr hd => by have := Nat.le_of_dvd (by decide) hd; have := hr.two; omega⟩
theorem OI.pos {p a : Int} {out left : Nat} (h : OI p a out left) : 0 < out ∧ left ∣ out := by
  obtain ⟨c, rfl, h1, h2, _⟩ := h
  exact ⟨Nat.mul_pos h1 h2, Nat.dvd_mul_right _ _⟩
theorem OI.yes {p a : Int} {out left q : Nat} (h : OI p a out (q * left)) (hq : 0 < q) (ho : Cg p (a ^ (out / q)) 1) : OI p a (out / q) left := by
  obtain ⟨c, rfl, h1, h2, h3, h4⟩ := h
  have e : q * left * c / q = left * c := by rw [Nat.mul_assoc, Nat.mul_div_cancel_left _ hq]
  rw [e] at ho ⊢
  have hl : 0 < left := Nat.pos_of_mul_pos_left h1
  refine ⟨c, rfl, hl, h2, ho, fun r hr hd hc => h4 r hr hd ?_⟩
  obtain ⟨c', rfl⟩ := hd
  have hr0 : 0 < r := by have := hr.two; omega
  have e1 : left * (r * c') / r = left * c' := by rw [show left * (r * c') = r * (left * c') by rw [← Nat.mul_assoc, Nat.mul_comm left r, Nat.mul_assoc], Nat.mul_div_cancel_left _ hr0]
  have e2 : q * left * (r * c') / r = left * c' * q := by rw [show q * left * (r * c') = r * (left * c' * q) by rw [Nat.mul_comm q left, Nat.mul_assoc, Nat.mul_left_comm q r c', Nat.mul_left_comm left r, Nat.mul_comm q c', Nat.mul_assoc], Nat.mul_div_cancel_left _ hr0]
  rw [e1] at hc
  rw [e2, Int.pow_mul]
  have := hc.pow q
  rwa [Int.one_pow] at this
theorem OI.no {p a : Int} {out left q : Nat} (h : OI p a out (q * left)) (hq : Prm q) (ho : ¬ Cg p (a ^ (out / q)) 1) : OI p a out left := by
  obtain ⟨c, rfl, h1, h2, h3, h4⟩ := h
  have hq0 : 0 < q := by have := hq.two; omega
  have hl : 0 < left := Nat.pos_of_mul_pos_left h1
  refine ⟨q * c, by rw [Nat.mul_comm q left, Nat.mul_assoc], hl, Nat.mul_pos hq0 h2, h3, fun r hr hd => ?_⟩
  by_cases hrq : r ∣ q
  · rcases hq.out r hrq with rfl | rfl
    · have := hr.two; omega
    · exact ho
  · exact h4 r hr (hr.dvd_mul hd hrq)
theorem OI.done {p a : Int} {out : Nat} (h : OI p a out 1) : IsOrd p a out := by
  obtain ⟨c, rfl, h1, h2, h3, h4⟩ := h
  rw [Nat.one_mul] at *
  refine ⟨h2, h3, fun d hd h5 => ?_⟩
  have hg := pow_gcd_one c d h3 h5
  have hgc : Nat.gcd c d ∣ c := Nat.gcd_dvd_left _ _
  by_cases hlt : Nat.gcd c d = c
  · have := Nat.le_of_dvd hd (Nat.gcd_dvd_right c d)
    omega
  · exfalso
    obtain ⟨m, hm⟩ := hgc
    have hg0 : 0 < Nat.gcd c d := Nat.gcd_pos_of_pos_left _ h2
    have hm2 : 2 ≤ m := by
      rcases m with _ | _ | m
      · simp at hm; omega
      · simp at hm; omega
      · omega
    obtain ⟨q, hq, m', rfl⟩ := exists_prime m hm2
    have hq0 : 0 < q := by have := hq.two; omega
    refine h4 q hq ⟨Nat.gcd c d * m', by rw [Nat.mul_left_comm]; exact hm⟩ ?_
    have e : c / q = Nat.gcd c d * m' := by
      conv => lhs; rw [hm]
      rw [Nat.mul_left_comm, Nat.mul_div_cancel_left _ hq0]
    rw [e, Int.pow_mul]
    have := hg.pow m'
    rwa [Int.one_pow] at this
/-- No number from 2 to q - 1 divides 'left'. -/
def Sm (q left : Nat) : Prop := ∀ d, 2 ≤ d → d < q → ¬ d ∣ left
theorem Sm.dvd {q left l' : Nat} (h : Sm q left) (hd : l' ∣ left) : Sm q l' := fun d h2 hq hdl => h d h2 hq (Nat.dvd_trans hdl hd)
theorem Sm.succ {q left : Nat} (h : Sm q left) (hn : ¬ q ∣ left) : Sm (q + 1) left := fun d h2 hq hdl => by
  by_cases e : d = q
  · subst e; exact hn hdl
  · exact h d h2 (by omega) hdl
theorem Sm.one (q : Nat) : Sm q 1 := fun d h2 hq hdl => by have := Nat.le_of_dvd (by decide) hdl; omega
theorem Sm.prime {q left : Nat} (h : Sm q left) (h2 : 2 ≤ q) (hd : q ∣ left) (hl : 0 < left) : Prm q := by
  refine ⟨h2, fun d hdq => ?_⟩
  by_cases h1 : d = 1
  · exact .inl h1
  by_cases h3 : d = q
  · exact .inr h3
  exfalso
  have hle := Nat.le_of_dvd (by omega) hdq
  have h0 : d ≠ 0 := by rintro rfl; simp at hdq; omega
  exact h d (by omega) (by omega) (Nat.dvd_trans hdq hd)
theorem Sm.prime_left {q left : Nat} (h : Sm q left) (h2 : 2 ≤ left) (hq : left < q * q) : Prm left := by
  refine ⟨h2, fun d hd => ?_⟩
  by_cases h1 : d = 1
  · exact .inl h1
  by_cases h3 : d = left
  · exact .inr h3
  exfalso
  obtain ⟨e, rfl⟩ := hd
  have hd0 : d ≠ 0 := by rintro rfl; simp at h2
  have he0 : e ≠ 0 := by rintro rfl; simp at h2
  have he1 : e ≠ 1 := by rintro rfl; simp at h3
  have h4 : ¬ d < q := fun hc => h d (by omega) hc (Nat.dvd_mul_right _ _)
  have h5 : ¬ e < q := fun hc => h e (by omega) hc (Nat.dvd_mul_left _ _)
  have := Nat.mul_le_mul (show q ≤ d by omega) (show q ≤ e by omega)
  omega

section
variable {f p g t : Int}
theorem sq_rng {q : Int} (h0 : 0 ≤ q) (h : q ≤ 1073741824) : 0 ≤ q * q ∧ q * q ≤ 1152921504606846976 := by
  refine ⟨Int.mul_nonneg h0 h0, ?_⟩
  have := Int.mul_le_mul h h h0 (by omega)
  omega
theorem pow_one_iff (h : IsF p g t) (a : Int) (n : Nat) : a ^ n % p = 1 ↔ Cg p (a ^ n) 1 := by
  have r := h.rng
  exact ⟨fun e => (Cg.mod p _).symm.trans (Cg.of_eq e), fun c => c.emod_of (by omega) (by omega)⟩
/-- a^m for an exponent modulo p - 1. -/
theorem pow_exp_iff (h : IsF p g t) {a : Int} (ha : ¬ Cg p a 0) {m : Nat} : a ^ ((m : Int) % (p - 1)).toNat % p = 1 ↔ Cg p (a ^ m) 1 := by
  have r := h.rng
  have q1 := emod_rng (p := p - 1) (by omega) (m : Int)
  rw [pow_one_iff h]
  have e : Cg p (a ^ ((m : Int) % (p - 1)).toNat) (a ^ m) := h.pow_cong ha (by rw [Int.toNat_of_nonneg q1.1, Int.emod_emod_of_dvd _ (Int.dvd_refl _)])
  exact ⟨fun c => e.symm.trans c, fun c => e.trans c⟩
end

end Go.Proofs.Ytginidfoikheaaa.M
