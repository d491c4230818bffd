import Derived.Test.YtginidfoikheaaaG0
/- Words on shifts and masks, the logarithm of two and the reversal of bits: plain, and what the loops of the program and of the reference compute. -/
import Derived.KernelRfl
import Derived.Laws.BitsLemmas
import Derived.Test.YtginidfoikheaaaZFnRootsTurnMa
import Derived.Test.YtginidfoikheaaaZFnRootsTurnMb
import Derived.Test.YtginidfoikheaaaWWords
import Derived.Test.YtginidfoikheaaaWMore
namespace Go.Proofs.Ytginidfoikheaaa.M
open Go.RowKit Go.Proofs.Ytginidfoikheaaa.P Go.Proofs.YtginidfoikheaaaW.PrintWords Go.Proofs.YtginidfoikheaaaW.PrintLast Go.Proofs.YtginidfoikheaaaW.PrintMore
set_option linter.unusedVariables false
set_option linter.unusedSimpArgs false

theorem wrap_i64_id {x : Int} (h : -9223372036854775808 ≤ x) (h' : x ≤ 9223372036854775807) : IntKind.i64.wrap x = x := by
  rw [IntKind.wrap_i64]; omega
theorem u64_id {x : Int} (h : 0 ≤ x) (h' : x ≤ 9223372036854775807) : IntKind.u64.wrap x = x := by
  simp [IntKind.wrap, IntKind.bits, IntKind.signed]; omega
theorem u64_pos (x : Int) : 0 ≤ IntKind.u64.wrap x := by
  simp [IntKind.wrap, IntKind.bits, IntKind.signed]; omega
theorem two_pow_le {n m : Nat} (h : n ≤ m) : (2 : Int) ^ n ≤ 2 ^ m := by
  have := Nat.pow_le_pow_right (n := 2) (by decide) h
  exact_mod_cast this
theorem two_pow_pos (n : Nat) : (0 : Int) < 2 ^ n := by
  have := Nat.two_pow_pos n
  exact_mod_cast this
theorem shl_one {k : Int} (h0 : 0 ≤ k) (h : k ≤ 62) : shl .i64 1 k = 2 ^ k.toNat := by
  have hp := two_pow_le (show k.toNat ≤ 62 by omega)
  have hq := two_pow_pos k.toNat
  have hb : IntKind.i64.bits = 64 := rfl
  unfold shl
  rw [hb, Nat.min_eq_left (by omega), Int.one_mul, wrap_i64_id (by omega) (by omega)]
theorem shr_ok {x k : Int} (h0 : 0 ≤ k) (h : k ≤ 62) : shr .i64 x k = x / 2 ^ k.toNat := by
  have hb : IntKind.i64.bits = 64 := rfl
  unfold shr
  rw [hb, Nat.min_eq_left (by omega)]
theorem and_one {x : Int} (h : 0 ≤ x) (h' : x ≤ 9223372036854775807) : Go.bits .and .i64 x 1 = x % 2 :=
  bits_mask .i64 63 (by decide) (fun n h0 h1 => wrap_i64_id (by omega) (by omega)) 1 (by decide) x h (by omega)

/-! ### the logarithm -/
/-- k for 2^k up to 512, else -1. -/
def lg (x : Int) : Int :=
  if x = 1 then 0 else if x = 2 then 1 else if x = 4 then 2 else if x = 8 then 3 else if x = 16 then 4 else if x = 32 then 5 else if x = 64 then 6 else if x = 128 then 7 else if x = 256 then 8 else if x = 512 then 9 else -1
theorem lg_cases (x : Int) : (∃ j : Nat, j ≤ 9 ∧ x = 2 ^ j ∧ lg x = j) ∨ ((x ≠ 1 ∧ x ≠ 2 ∧ x ≠ 4 ∧ x ≠ 8 ∧ x ≠ 16 ∧ x ≠ 32 ∧ x ≠ 64 ∧ x ≠ 128 ∧ x ≠ 256 ∧ x ≠ 512) ∧ lg x = -1) := by
  by_cases h : x = 1 ∨ x = 2 ∨ x = 4 ∨ x = 8 ∨ x = 16 ∨ x = 32 ∨ x = 64 ∨ x = 128 ∨ x = 256 ∨ x = 512
  · left
    rcases h with rfl | rfl | rfl | rfl | rfl | rfl | rfl | rfl | rfl | rfl
    · exact ⟨0, by decide⟩
    · exact ⟨1, by decide⟩
    · exact ⟨2, by decide⟩
    · exact ⟨3, by decide⟩
    · exact ⟨4, by decide⟩
    · exact ⟨5, by decide⟩
    · exact ⟨6, by decide⟩
    · exact ⟨7, by decide⟩
    · exact ⟨8, by decide⟩
    · exact ⟨9, by decide⟩
  · right
    refine ⟨by omega, ?_⟩
    unfold lg
    repeat rw [if_neg (by omega)]
theorem lg_pow {j : Nat} (h : j ≤ 9) : lg (2 ^ j) = j := by
  have : j = 0 ∨ j = 1 ∨ j = 2 ∨ j = 3 ∨ j = 4 ∨ j = 5 ∨ j = 6 ∨ j = 7 ∨ j = 8 ∨ j = 9 := by omega
  rcases this with rfl | rfl | rfl | rfl | rfl | rfl | rfl | rfl | rfl | rfl <;> decide
theorem lg_le (x : Int) : -1 ≤ lg x ∧ lg x ≤ 9 := by
  rcases lg_cases x with ⟨j, h, _, e⟩ | ⟨_, e⟩ <;> omega
theorem lg_some {x : Int} (h : 0 ≤ lg x) : ∃ j : Nat, j ≤ 9 ∧ x = 2 ^ j ∧ lg x = j := by
  rcases lg_cases x with h1 | ⟨_, e⟩
  · exact h1
  · omega
theorem lg_none {x : Int} (h : lg x < 0) : lg x = -1 := by have := lg_le x; omega

/-! ### the reversal -/
/-- The k lowest bits of x in reverse order. -/
def rv : Nat → Nat → Nat
  | 0, _ => 0
  | k + 1, x => 2 ^ k * (x % 2) + rv k (x / 2)
theorem rv_lt (k : Nat) : ∀ x, rv k x < 2 ^ k := by
  induction k with
  | zero => intro x; simp [rv]
  | succ k ih =>
    intro x
    have := ih (x / 2)
    have h2 : x % 2 = 0 ∨ x % 2 = 1 := by omega
    simp only [rv, Nat.pow_succ]
    rcases h2 with h | h <;> rw [h] <;> omega
/-- The highest bit becomes the lowest. -/
theorem rv_high (k : Nat) : ∀ x, x < 2 ^ (k + 1) → rv (k + 1) x = 2 * rv k (x % 2 ^ k) + x / 2 ^ k := by
  induction k with
  | zero =>
    intro x h
    have : x = 0 ∨ x = 1 := by simp at h; omega
    rcases this with rfl | rfl <;> rfl
  | succ k ih =>
    intro x h
    rw [Nat.pow_succ] at h
    have h1 := ih (x / 2) (by omega)
    have e1 : rv (k + 1 + 1) x = 2 ^ (k + 1) * (x % 2) + rv (k + 1) (x / 2) := rfl
    have e2 : rv (k + 1) (x % 2 ^ (k + 1)) = 2 ^ k * (x % 2 ^ (k + 1) % 2) + rv k (x % 2 ^ (k + 1) / 2) := rfl
    have hd : 2 ^ (k + 1) = 2 ^ k * 2 := Nat.pow_succ _ _
    have e3 : x % 2 ^ (k + 1) % 2 = x % 2 := by rw [hd]; exact Nat.mod_mul_left_mod x _ 2
    have e4 : x % 2 ^ (k + 1) / 2 = x / 2 % 2 ^ k := by rw [hd, Nat.mul_comm, Nat.mod_mul_right_div_self]
    have e5 : x / 2 ^ (k + 1) = x / 2 / 2 ^ k := by rw [hd, Nat.mul_comm, Nat.div_div_eq_div_mul]
    rw [e1, h1, e2, e3, e4, e5, hd]
    have : 2 ^ k * 2 * (x % 2) = 2 * (2 ^ k * (x % 2)) := by
      rw [Nat.mul_comm (2 ^ k) 2, Nat.mul_assoc]
    omega
theorem rv_rv (k : Nat) : ∀ x, x < 2 ^ k → rv k (rv k x) = x := by
  induction k with
  | zero => intro x h; simp at h; subst h; rfl
  | succ k ih =>
    intro x h
    have hr := rv_lt k (x / 2)
    have h2 : x % 2 = 0 ∨ x % 2 = 1 := by omega
    rw [rv_high k _ (rv_lt (k + 1) x)]
    have e1 : rv (k + 1) x = 2 ^ k * (x % 2) + rv k (x / 2) := rfl
    rw [Nat.pow_succ] at h
    rw [e1, Nat.mul_add_mod, Nat.mod_eq_of_lt hr, ih _ (by omega), Nat.mul_add_div (Nat.two_pow_pos k), Nat.div_eq_of_lt hr]
    omega
theorem rv_inj {k x y : Nat} (hx : x < 2 ^ k) (hy : y < 2 ^ k) (h : rv k x = rv k y) : x = y := by
  rw [← rv_rv k x hx, ← rv_rv k y hy, h]

end Go.Proofs.Ytginidfoikheaaa.M
