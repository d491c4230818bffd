import Derived.Test.YtginidfoikheaaaG0
/- What Permute, RootOf, Roots and RootSum compute, of the program and of the reference. -/
import Derived.Test.YtginidfoikheaaaZFnRootsTurnMa
import Derived.Test.YtginidfoikheaaaZFnRootsTurnMb
import Derived.Test.YtginidfoikheaaaZFnRootsTurnMc
import Derived.Test.YtginidfoikheaaaZFnRootsTurnMd
import Derived.Test.YtginidfoikheaaaZFnRootsTurnMe
import Derived.Test.YtginidfoikheaaaZFnRootsTurnMh
import Derived.Test.YtginidfoikheaaaZFnRootsTurnMi
import Derived.Test.YtginidfoikheaaaWWords
import Derived.Test.YtginidfoikheaaaWMore
import Derived.Test.YtginidfoikheaaaZFnRootsTurn1
import Derived.Test.YtginidfoikheaaaZFnRootsTurn0
import Derived.Test.YtginidfoikheaaaZFnRootsTurn2
import Derived.Test.YtginidfoikheaaaZFnRootsTurn5
import Derived.Test.YtginidfoikheaaaZFnRootsTurn3
namespace Go.Proofs.Ytginidfoikheaaa.M
open Go.RowKit Go.Proofs.Ytginidfoikheaaa.P Go.Proofs.YtginidfoikheaaaW.PrintWords Go.Proofs.YtginidfoikheaaaW.PrintLast Go.Proofs.YtginidfoikheaaaW.PrintMore
set_option linter.unusedVariables false
set_option linter.unusedSimpArgs false

/-! ### Permute -/
/-- The list with each element at the reversed index. -/
def pm (k : Nat) (l : List Int) : List Int := (List.range l.length).map fun j => rd l ((rv k j : Nat) : Int)
theorem pm_length (k : Nat) (l : List Int) : (pm k l).length = l.length := by simp [pm]
theorem pm_rd {k : Nat} {l : List Int} {j : Nat} (h : j < l.length) : rd (pm k l) (j : Int) = rd l ((rv k j : Nat) : Int) := by
  rw [rd_at (by rw [pm_length]; exact h)]
  simp [pm]
theorem pm_pm {k : Nat} {l : List Int} (h : l.length = 2 ^ k) : pm k (pm k l) = l := by
  apply List.ext_getElem
  · simp [pm]
  · intro j h1 h2
    have hr := rv_lt k j
    rw [← rd_at h1, ← rd_at h2, pm_rd (by rw [pm_length]; exact h2), pm_rd (by omega), rv_rv k j (by omega)]
theorem set_getD (l : List Int) (i j : Nat) (v : Int) (hi : i < l.length) : (l.set i v).getD j 0 = if i = j then v else l.getD j 0 := by
  simp only [List.getD_eq_getElem?_getD, List.getElem?_set]
  split <;> simp_all

/-! ### roots -/
section
variable {f p g t : Int}
/-- The root of order 2^k. -/
def wr (p g : Int) (k : Nat) : Int := g ^ ((p.toNat - 1) / 2 ^ k) % p
theorem wr_rng {p : Int} (hp : 0 < p) (g : Int) (k : Nat) : 0 ≤ wr p g k ∧ wr p g k < p := emod_rng hp _
theorem IsF.g_ne (h : IsF p g t) : ¬ Cg p g 0 := fun hc => by
  have r := h.rng
  have := hc.eq (by omega) (by omega) (by omega) (by omega)
  omega
theorem wr_ne (h : IsF p g t) (k : Nat) : ¬ Cg p (wr p g k) 0 := fun hc => h.pow_ne h.g_ne _ ((Cg.mod p _).symm.trans hc)
theorem shr_p (h : IsF p g t) {k : Int} (h0 : 0 ≤ k) (hk : k ≤ 62) : (shr .i64 (p - 1) k).toNat = (p.toNat - 1) / 2 ^ k.toNat ∧ 0 ≤ shr .i64 (p - 1) k ∧ shr .i64 (p - 1) k ≤ p - 1 := by
  have r := h.rng
  have hp := two_pow_pos k.toNat
  rw [shr_ok h0 hk]
  have h1 : 0 ≤ (p - 1) / 2 ^ k.toNat := Int.ediv_nonneg (by omega) (by omega)
  have h2 : (p - 1) / 2 ^ k.toNat ≤ p - 1 := Int.ediv_le_self _ (by omega)
  refine ⟨?_, h1, h2⟩
  have e : (p - 1) = ((p.toNat - 1 : Nat) : Int) := by omega
  rw [e, show (2 : Int) ^ k.toNat = ((2 ^ k.toNat : Nat) : Int) by simp]
  exact Int.toNat_natCast _
theorem root_ok (h : IsF p g t) {k : Int} (h0 : 0 ≤ k) (hk : k ≤ 62) : Ev (fun n => impl_field_root.f n p g t k) (wr p g k.toNat) := by
  have r := h.rng
  have s := shr_p h h0 hk
  obtain ⟨K, hK⟩ := power_ok h (a := g) (e := shr .i64 (p - 1) k) (by omega) (by omega) s.2.1 (by omega)
  rw [s.1] at hK
  refine ⟨K, fun n hn => ?_⟩
  unfold impl_field_root.f
  simp (disch := omega) only [hK, w64, tmod_pos, tdiv_pos, ↓if_pos, ↓if_neg, if_pos, if_neg, if_true, if_false, Option.bind_some, Bool.false_eq_true, Bool.not_true, Bool.not_false, ↓reduceIte]
  rfl
theorem iRootOf_ok (h : FI f p g t) {k : Int} (h0 : 0 ≤ k) (hk : k ≤ t) : Ev (fun n => impl_RootOf.f n f k) (wr p g k.toNat) := by
  have r := h.isF.rng
  obtain ⟨K, hK⟩ := root_ok h.isF h0 (by omega)
  refine ⟨K, fun n hn => ?_⟩
  unfold impl_RootOf.f
  simp (disch := omega) only [fieldOf_ok h, hK, w64, tmod_pos, tdiv_pos, ↓if_pos, ↓if_neg, if_pos, if_neg, if_true, if_false, Option.bind_some, Bool.false_eq_true, Bool.not_true, Bool.not_false, ↓reduceIte]
theorem iRootOf_no (h : FI f p g t) {k : Int} (hk : k < 0 ∨ t < k) : Ev (fun n => impl_RootOf.f n f k) (-1) := by
  refine ⟨0, fun n hn => ?_⟩
  unfold impl_RootOf.f
  by_cases h0 : k < 0
  · simp (disch := omega) only [fieldOf_ok h, w64, tmod_pos, tdiv_pos, ↓if_pos, ↓if_neg, if_pos, if_neg, if_true, if_false, Option.bind_some, Bool.false_eq_true, Bool.not_true, Bool.not_false, ↓reduceIte]
  · simp (disch := omega) only [fieldOf_ok h, w64, tmod_pos, tdiv_pos, ↓if_pos, ↓if_neg, if_pos, if_neg, if_true, if_false, Option.bind_some, Bool.false_eq_true, Bool.not_true, Bool.not_false, ↓reduceIte]
theorem iRootOf_nof (h : f < 0 ∨ 9 ≤ f) (k : Int) : Ev (fun n => impl_RootOf.f n f k) (-1) := by
  refine ⟨0, fun n hn => ?_⟩
  unfold impl_RootOf.f
  simp (disch := omega) only [fieldOf_no h, w64, tmod_pos, tdiv_pos, ↓if_pos, ↓if_neg, if_pos, if_neg, if_true, if_false, Option.bind_some, Bool.false_eq_true, Bool.not_true, Bool.not_false, ↓reduceIte]
theorem sRootOf_ok (h : FI f p g t) {k : Int} (h0 : 0 ≤ k) (hk : k ≤ t) : Ev (fun n => spec_RootOf.f n f k) (wr p g k.toNat) := by
  have r := h.isF.rng
  have s := shr_p h.isF h0 (show k ≤ 62 by omega)
  have q1 := emod_rng (p := p - 1) (by omega) (shr .i64 (p - 1) k)
  obtain ⟨K, hK⟩ := Power_ok h h.isF.g_ne (e := shr .i64 (p - 1) k) (by omega) (by omega)
  obtain ⟨K2, hK2⟩ := Generator_ok h
  obtain ⟨K3, hK3⟩ := TwoPower_ok h
  have hd : decide (k ≤ t) = true := decide_eq_true hk
  refine ⟨K + K2 + K3 + 1, fun n hn => ?_⟩
  obtain ⟨n, rfl⟩ : ∃ m, n = m + 1 := ⟨n - 1, by omega⟩
  unfold spec_RootOf.f spec_l01In.f
  simp (disch := omega) only [Modulus_ok h, hK2, hK3, hd, spec_RootOf.j0, u64_id, hK, w64, tmod_pos, tdiv_pos, ↓if_pos, ↓if_neg, if_pos, if_neg, if_true, if_false, Option.bind_some, Bool.false_eq_true, Bool.not_true, Bool.not_false, ↓reduceIte]
  congr 1
  have e : g % p = g := Int.emod_eq_of_lt (by omega) (by omega)
  rw [e]
  unfold wr
  refine (h.isF.pow_cong h.isF.g_ne ?_).emod_eq
  rw [Int.toNat_of_nonneg q1.1, Int.emod_emod_of_dvd _ (Int.dvd_refl _), ← s.1, Int.toNat_of_nonneg s.2.1]
theorem sRootOf_no (h : FI f p g t) {k : Int} (hk : k < 0 ∨ t < k) : Ev (fun n => spec_RootOf.f n f k) (-1) := by
  have r := h.isF.rng
  obtain ⟨K3, hK3⟩ := TwoPower_ok h
  refine ⟨K3 + 1, fun n hn => ?_⟩
  obtain ⟨n, rfl⟩ : ∃ m, n = m + 1 := ⟨n - 1, by omega⟩
  unfold spec_RootOf.f spec_l01In.f
  by_cases h0 : k < 0
  · simp (disch := omega) only [Modulus_ok h, hK3, spec_RootOf.j0, w64, tmod_pos, tdiv_pos, ↓if_pos, ↓if_neg, if_pos, if_neg, if_true, if_false, Option.bind_some, Bool.false_eq_true, Bool.not_true, Bool.not_false, ↓reduceIte]
  · have hd : decide (k ≤ t) = false := decide_eq_false (by omega)
    simp (disch := omega) only [Modulus_ok h, hK3, hd, spec_RootOf.j0, w64, tmod_pos, tdiv_pos, ↓if_pos, ↓if_neg, if_pos, if_neg, if_true, if_false, Option.bind_some, Bool.false_eq_true, Bool.not_true, Bool.not_false, ↓reduceIte]
theorem sRootOf_nof (h : f < 0 ∨ 9 ≤ f) (k : Int) : Ev (fun n => spec_RootOf.f n f k) (-1) := by
  refine ⟨1, fun n hn => ?_⟩
  obtain ⟨n, rfl⟩ : ∃ m, n = m + 1 := ⟨n - 1, by omega⟩
  unfold spec_RootOf.f
  simp (disch := omega) only [Modulus_no h, spec_RootOf.j0, w64, tmod_pos, tdiv_pos, ↓if_pos, ↓if_neg, if_pos, if_neg, if_true, if_false, Option.bind_some, Bool.false_eq_true, Bool.not_true, Bool.not_false, ↓reduceIte]
/-- The powers of the root of order 2^k. -/
def rts (p g : Int) (k : Nat) : List Int := (List.range (2 ^ k)).map fun i => wr p g k ^ i % p
theorem rts_length (p g : Int) (k : Nat) : (rts p g k).length = 2 ^ k := by simp [rts]
theorem rts_rd {p g : Int} {k i : Nat} (h : i < 2 ^ k) : rd (rts p g k) (i : Int) = wr p g k ^ i % p := by
  rw [rd_at (by rw [rts_length]; exact h)]
  simp [rts]
theorem roots_l0 (h : IsF p g t) {K : Nat} (hK : K ≤ 9) (d : Nat) : ∀ (k i : Nat), d < k → 2 ^ K - i = d → 0 < i → i ≤ 2 ^ K →
    impl_field_roots.l0 k K ((rts p g K).take i) (wr p g K) p g t = some (rts p g K) := by
  have r := h.rng
  have hp : 2 ^ K ≤ 2 ^ 9 := Nat.pow_le_pow_right (by decide) hK
  have hpz : (2 : Int) ^ K = ((2 ^ K : Nat) : Int) := by simp
  have q := wr_rng (p := p) (by omega) g K
  induction d with
  | zero =>
    intro k i hk hd h0 hi
    obtain ⟨k, rfl⟩ : ∃ m, k = m + 1 := ⟨k - 1, by omega⟩
    obtain rfl : i = 2 ^ K := by omega
    rw [List.take_of_length_le (by rw [rts_length]; omega)]
    have hl := rts_length p g K
    simp (disch := omega) only [impl_field_roots.l0, shl_one, Int.toNat_natCast, w64, tmod_pos, tdiv_pos, ↓if_pos, ↓if_neg, if_pos, if_neg, if_true, if_false, Option.bind_some, Bool.false_eq_true, Bool.not_true, Bool.not_false, ↓reduceIte]
  | succ d ih =>
    intro k i hk hd h0 hi
    obtain ⟨k, rfl⟩ : ∃ m, k = m + 1 := ⟨k - 1, by omega⟩
    have hlen : ((rts p g K).take i).length = i := by rw [List.length_take, rts_length]; omega
    have e1 : rd ((rts p g K).take i) ((i : Int) - 1) = wr p g K ^ (i - 1) % p := by
      rw [show ((i : Int) - 1) = ((i - 1 : Nat) : Int) by omega, rd_at (by omega), List.getElem_take, ← rd_at, rts_rd (by omega)]
    have q1 := emod_rng (p := p) (by omega) (wr p g K ^ (i - 1))
    have e2 : wr p g K ^ (i - 1) % p * wr p g K % p = wr p g K ^ i % p := by
      refine (((Cg.mod p _).mul (Cg.refl p _)).trans (Cg.of_eq ?_)).emod_eq
      rw [← Int.pow_succ]
      congr 1
      omega
    have e3 := ih k (i + 1) (by omega) (by omega) (by omega) (by omega)
    rw [take_rd (by rw [rts_length]; omega), rts_rd (by omega)] at e3
    simp (disch := omega) only [impl_field_roots.l0, shl_one, Int.toNat_natCast, hpz, hlen, e1, mul_ok h q1.1 q1.2 q.1 q.2, e2, w64, tmod_pos, tdiv_pos, ↓if_pos, ↓if_neg, if_pos, if_neg, if_true, if_false, Option.bind_some, Bool.false_eq_true, Bool.not_true, Bool.not_false, ↓reduceIte]
    exact e3
theorem roots_ok (h : IsF p g t) {K : Nat} (hK : K ≤ 9) : Ev (fun n => impl_field_roots.f n p g t K) (rts p g K) := by
  have r := h.rng
  obtain ⟨N, hN⟩ := root_ok h (k := (K : Int)) (by omega) (by omega)
  rw [Int.toNat_natCast] at hN
  refine ⟨N + 2 ^ K + 1, fun n hn => ?_⟩
  unfold impl_field_roots.f
  have hp := Nat.two_pow_pos K
  simp (disch := omega) only [hN, w64, tmod_pos, tdiv_pos, ↓if_pos, ↓if_neg, if_pos, if_neg, if_true, if_false, Option.bind_some, Bool.false_eq_true, Bool.not_true, Bool.not_false, ↓reduceIte]
  have e := roots_l0 h hK (2 ^ K - 1) n 1 (by omega) (by omega) (by omega) (by omega)
  have e2 : (rts p g K).take 1 = [1] := by
    have := take_rd (l := rts p g K) (i := 0) (by rw [rts_length]; omega)
    rw [Int.natCast_zero] at this
    have e3 := rts_rd (p := p) (g := g) (k := K) (i := 0) (by omega)
    rw [Int.natCast_zero, Int.pow_zero, Int.emod_eq_of_lt (by omega) (by omega)] at e3
    rw [this, e3]
    simp
  rw [e2] at e
  exact e
theorem iRoots_ok (h : FI f p g t) {K : Nat} (hK : K ≤ 9) (ht : (K : Int) ≤ t) : Ev (fun n => impl_Roots.f n f K) (rts p g K) := by
  obtain ⟨N, hN⟩ := roots_ok h.isF hK
  have hm : (K : Int) ≤ mn t 9 := by unfold mn; split <;> omega
  refine ⟨N, fun n hn => ?_⟩
  unfold impl_Roots.f
  simp (disch := omega) only [fieldOf_ok h, hN, w64, tmod_pos, tdiv_pos, ↓if_pos, ↓if_neg, if_pos, if_neg, if_true, if_false, Option.bind_some, Bool.false_eq_true, Bool.not_true, Bool.not_false, ↓reduceIte]
theorem iRoots_no (h : FI f p g t) {k : Int} (hk : k < 0 ∨ t < k ∨ 9 < k) : Ev (fun n => impl_Roots.f n f k) [] := by
  have hm := mn_le t 9
  refine ⟨0, fun n hn => ?_⟩
  unfold impl_Roots.f
  by_cases h0 : k < 0
  · simp (disch := omega) only [fieldOf_ok h, w64, tmod_pos, tdiv_pos, ↓if_pos, ↓if_neg, if_pos, if_neg, if_true, if_false, Option.bind_some, Bool.false_eq_true, Bool.not_true, Bool.not_false, ↓reduceIte]
  · simp (disch := omega) only [fieldOf_ok h, w64, tmod_pos, tdiv_pos, ↓if_pos, ↓if_neg, if_pos, if_neg, if_true, if_false, Option.bind_some, Bool.false_eq_true, Bool.not_true, Bool.not_false, ↓reduceIte]
theorem iRoots_nof (h : f < 0 ∨ 9 ≤ f) (k : Int) : Ev (fun n => impl_Roots.f n f k) [] := by
  refine ⟨0, fun n hn => ?_⟩
  unfold impl_Roots.f
  simp (disch := omega) only [fieldOf_no h, w64, tmod_pos, tdiv_pos, ↓if_pos, ↓if_neg, if_pos, if_neg, if_true, if_false, Option.bind_some, Bool.false_eq_true, Bool.not_true, Bool.not_false, ↓reduceIte]
theorem iRootSum_ok (h : FI f p g t) {K : Nat} (hK : K ≤ 9) (ht : (K : Int) ≤ t) (j : Int) : Ev (fun n => impl_RootSum.f n f K j) (if Int.tmod j (2 ^ K) = 0 then 2 ^ K % p else 0) := by
  have hp := two_pow_pos K
  have hd : decide ((K : Int) > mn t 9) = false := decide_eq_false (by unfold mn; split <;> omega)
  refine ⟨1, fun n hn => ?_⟩
  obtain ⟨n, rfl⟩ : ∃ m, n = m + 1 := ⟨n - 1, by omega⟩
  unfold impl_RootSum.f
  by_cases hj : Int.tmod j (2 ^ K) = 0
  · simp (disch := omega) only [fieldOf_ok h, hd, impl_RootSum.j0, shl_one, Int.toNat_natCast, hj, reduce_ok h.isF, w64, tmod_pos, tdiv_pos, ↓if_pos, ↓if_neg, if_pos, if_neg, if_true, if_false, Option.bind_some, Bool.false_eq_true, Bool.not_true, Bool.not_false, ↓reduceIte]
  · simp (disch := omega) only [fieldOf_ok h, hd, impl_RootSum.j0, shl_one, Int.toNat_natCast, hj, w64, tmod_pos, tdiv_pos, ↓if_pos, ↓if_neg, if_pos, if_neg, if_true, if_false, Option.bind_some, Bool.false_eq_true, Bool.not_true, Bool.not_false, ↓reduceIte]
theorem iRootSum_no (h : FI f p g t) {k : Int} (hk : k < 0 ∨ t < k ∨ 9 < k) (j : Int) : Ev (fun n => impl_RootSum.f n f k j) (-1) := by
  have hm := mn_le t 9
  refine ⟨1, fun n hn => ?_⟩
  obtain ⟨n, rfl⟩ : ∃ m, n = m + 1 := ⟨n - 1, by omega⟩
  unfold impl_RootSum.f
  by_cases h0 : k < 0
  · simp (disch := omega) only [fieldOf_ok h, impl_RootSum.j0, w64, tmod_pos, tdiv_pos, ↓if_pos, ↓if_neg, if_pos, if_neg, if_true, if_false, Option.bind_some, Bool.false_eq_true, Bool.not_true, Bool.not_false, ↓reduceIte]
  · have hd : decide (k > mn t 9) = true := decide_eq_true (by omega)
    simp (disch := omega) only [fieldOf_ok h, impl_RootSum.j0, hd, w64, tmod_pos, tdiv_pos, ↓if_pos, ↓if_neg, if_pos, if_neg, if_true, if_false, Option.bind_some, Bool.false_eq_true, Bool.not_true, Bool.not_false, ↓reduceIte]
theorem iRootSum_nof (h : f < 0 ∨ 9 ≤ f) (k j : Int) : Ev (fun n => impl_RootSum.f n f k j) (-1) := by
  refine ⟨1, fun n hn => ?_⟩
  obtain ⟨n, rfl⟩ : ∃ m, n = m + 1 := ⟨n - 1, by omega⟩
  unfold impl_RootSum.f
  simp (disch := omega) only [fieldOf_no h, impl_RootSum.j0, w64, tmod_pos, tdiv_pos, ↓if_pos, ↓if_neg, if_pos, if_neg, if_true, if_false, Option.bind_some, Bool.false_eq_true, Bool.not_true, Bool.not_false, ↓reduceIte]
end

end Go.Proofs.Ytginidfoikheaaa.M
