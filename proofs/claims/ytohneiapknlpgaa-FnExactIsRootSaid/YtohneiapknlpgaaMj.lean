/- What Permute, RootOf, Roots and RootSum compute, of the program and of the reference. -/
import Derived.Test.YtohneiapknlpgaaMa
import Derived.Test.YtohneiapknlpgaaMb
import Derived.Test.YtohneiapknlpgaaMc
import Derived.Test.YtohneiapknlpgaaMd
import Derived.Test.YtohneiapknlpgaaMe
import Derived.Test.YtohneiapknlpgaaMh
import Derived.Test.YtohneiapknlpgaaMi
import Derived.Test.YtohneiapknlpgaaWWords
import Derived.Test.YtohneiapknlpgaaWMore
import Derived.Test.YtohneiapknlpgaaGF020
import Derived.Test.YtohneiapknlpgaaGF012
import Derived.Test.YtohneiapknlpgaaGF011
import Derived.Test.YtohneiapknlpgaaGF010
import Derived.Test.YtohneiapknlpgaaGF022
import Derived.Test.YtohneiapknlpgaaGF021
namespace Go.Proofs.Ytohneiapknlpgaa.M
open Go.RowKit Go.Proofs.Ytohneiapknlpgaa.P Go.Proofs.YtohneiapknlpgaaW.PrintWords Go.Proofs.YtohneiapknlpgaaW.PrintLast Go.Proofs.YtohneiapknlpgaaW.PrintMore
set_option linter.unusedVariables false
set_option linter.unusedSimpArgs false

/-! ### Permute -/
/-- The list with each element at the reversed index. -/
def pm (k : Nat) (l : List Int) : List Int := (List.range l.length).map fun j => rd l ((rv k j : Nat) : Int)
theorem pm_length (k : Nat) (l : List Int) : (pm k l).length = l.length := by simp [pm]
theorem pm_rd {k : Nat} {l : List Int} {j : Nat} (h : j < l.length) : rd (pm k l) (j : Int) = rd l ((rv k j : Nat) : Int) := by
  rw [rd_at (by rw [pm_length]; exact h)]
  simp [pm]
theorem pm_pm {k : Nat} {l : List Int} (h : l.length = 2 ^ k) : pm k (pm k l) = l := by
  apply List.ext_getElem
  · simp [pm]
  · intro j h1 h2
    have hr := rv_lt k j
    rw [← rd_at h1, ← rd_at h2, pm_rd (by rw [pm_length]; exact h2), pm_rd (by omega), rv_rv k j (by omega)]
theorem set_getD (l : List Int) (i j : Nat) (v : Int) (hi : i < l.length) : (l.set i v).getD j 0 = if i = j then v else l.getD j 0 := by
  simp only [List.getD_eq_getElem?_getD, List.getElem?_set]
  split <;> simp_all
theorem permuted_l0 {K : Nat} (hK : K ≤ 9) (l : List Int) (hl : l.length = 2 ^ K) (d : Nat) : ∀ (k i : Nat) (x : List Int), K + d + 1 < k → l.length - i = d → i ≤ l.length → x.length = l.length →
    (∀ j, j < l.length → x.getD j 0 = if rv K j < i then l.getD (rv K j) 0 else 0) → impl_permuted.l0 k K x l l.length i = some (pm K l) := by
  have hp : 2 ^ K ≤ 2 ^ 9 := Nat.pow_le_pow_right (by decide) hK
  have hpz : (2 : Int) ^ K = ((2 ^ K : Nat) : Int) := by simp
  induction d with
  | zero =>
    intro k i x hk hd hi hx hj
    obtain ⟨k, rfl⟩ : ∃ m, k = m + 1 := ⟨k - 1, by omega⟩
    obtain rfl : i = l.length := by omega
    simp (disch := omega) only [impl_permuted.l0, w64, tmod_pos, tdiv_pos, ↓if_pos, ↓if_neg, if_pos, if_neg, if_true, if_false, Option.bind_some, Bool.false_eq_true, Bool.not_true, Bool.not_false, ↓reduceIte]
    congr 1
    apply List.ext_getElem
    · rw [pm_length, hx]
    · intro j h1 h2
      have h3 := hj j (by omega)
      have hr := rv_lt K j
      rw [if_pos (by omega)] at h3
      rw [← rd_at h2, pm_rd (by omega), rd_nat, ← h3]
      simp [h1]
  | succ d ih =>
    intro k i x hk hd hi hx hj
    obtain ⟨k, rfl⟩ : ∃ m, k = m + 1 := ⟨k - 1, by omega⟩
    have hr := rv_lt K i
    have e := reversed_l0 K k (i : Int) 0 (K : Int) 0 (by omega) (by omega) (by omega) (by omega) (by omega) (by omega) (by omega) (by decide)
    have e2 : impl_reversed.f k (i : Int) (K : Int) = some ((rv K i : Nat) : Int) := by
      unfold impl_reversed.f
      rw [e]
      simp
    simp (disch := omega) only [impl_permuted.l0, e2, Int.toNat_natCast, w64, tmod_pos, tdiv_pos, ↓if_pos, ↓if_neg, if_pos, if_neg, if_true, if_false, Option.bind_some, Bool.false_eq_true, Bool.not_true, Bool.not_false, ↓reduceIte]
    refine ih k (i + 1) _ (by omega) (by omega) (by omega) (by rw [List.length_set, hx]) (fun j hjl => ?_)
    rw [set_getD _ _ _ _ (by omega), hj j hjl, rd_nat]
    by_cases hc : rv K i = j
    · subst hc
      rw [if_pos rfl, rv_rv K i (by omega), if_pos (by omega)]
    · rw [if_neg hc]
      have : rv K j ≠ i := fun h => hc (by rw [← h, rv_rv K j (by omega)])
      by_cases h3 : rv K j < i
      · rw [if_pos h3, if_pos (by omega)]
      · rw [if_neg h3, if_neg (by omega)]
theorem permuted_ok {K : Nat} (hK : K ≤ 9) {l : List Int} (hl : l.length = 2 ^ K) : Ev (fun k => impl_permuted.f k l) (pm K l) := by
  have hp : 2 ^ K ≤ 2 ^ 9 := Nat.pow_le_pow_right (by decide) hK
  have hlg : lg (l.length : Int) = K := by rw [hl]; have := lg_pow hK; simpa using this
  obtain ⟨N, hN⟩ := logOf_ok (l.length : Int)
  rw [hlg] at hN
  refine ⟨N + K + l.length + 2, fun k hk => ?_⟩
  unfold impl_permuted.f
  simp (disch := omega) only [hN, Int.toNat_natCast, w64, tmod_pos, tdiv_pos, ↓if_pos, ↓if_neg, if_pos, if_neg, if_true, if_false, Option.bind_some, Bool.false_eq_true, Bool.not_true, Bool.not_false, ↓reduceIte]
  refine permuted_l0 hK l hl l.length k 0 _ (by omega) (by omega) (by omega) (by simp) (fun j hj => ?_)
  rw [if_neg (by omega)]
  simp [List.getD_eq_getElem?_getD, List.getElem?_replicate, hj]
theorem iPermute_ok {K : Nat} (hK : K ≤ 9) {l : List Int} (hl : l.length = 2 ^ K) : Ev (fun k => impl_Permute.f k l) (pm K l) := by
  have hlg : lg (l.length : Int) = K := by rw [hl]; have := lg_pow hK; simpa using this
  obtain ⟨N, hN⟩ := logOf_ok (l.length : Int)
  rw [hlg] at hN
  obtain ⟨N', hN'⟩ := permuted_ok hK hl
  refine ⟨N + N', fun k hk => ?_⟩
  unfold impl_Permute.f
  simp (disch := omega) only [hN, hN', w64, tmod_pos, tdiv_pos, ↓if_pos, ↓if_neg, if_pos, if_neg, if_true, if_false, Option.bind_some, Bool.false_eq_true, Bool.not_true, Bool.not_false, ↓reduceIte]
theorem iPermute_no {l : List Int} (h : lg (l.length : Int) < 0) : Ev (fun k => impl_Permute.f k l) [] := by
  obtain ⟨N, hN⟩ := logOf_ok (l.length : Int)
  refine ⟨N, fun k hk => ?_⟩
  unfold impl_Permute.f
  simp (disch := omega) only [hN, w64, tmod_pos, tdiv_pos, ↓if_pos, ↓if_neg, if_pos, if_neg, if_true, if_false, Option.bind_some, Bool.false_eq_true, Bool.not_true, Bool.not_false, ↓reduceIte]
theorem sPermute_l0 {K : Nat} (hK : K ≤ 9) (l : List Int) (hl : l.length = 2 ^ K) (d : Nat) : ∀ (k i : Nat), K + d + 2 < k → l.length - i = d → i ≤ l.length →
    spec_Permute.l0 k l ((pm K l).take i) K i = some (pm K l) := by
  have hp : 2 ^ K ≤ 2 ^ 9 := Nat.pow_le_pow_right (by decide) hK
  have hpz : (2 : Int) ^ K = ((2 ^ K : Nat) : Int) := by simp
  induction d with
  | zero =>
    intro k i hk hd hi
    obtain ⟨k, rfl⟩ : ∃ m, k = m + 1 := ⟨k - 1, by omega⟩
    obtain rfl : i = l.length := by omega
    simp (disch := omega) only [spec_Permute.l0, w64, tmod_pos, tdiv_pos, ↓if_pos, ↓if_neg, if_pos, if_neg, if_true, if_false, Option.bind_some, Bool.false_eq_true, Bool.not_true, Bool.not_false, ↓reduceIte]
    rw [List.take_of_length_le (by rw [pm_length]; omega)]
  | succ d ih =>
    intro k i hk hd hi
    obtain ⟨k, rfl⟩ : ∃ m, k = m + 1 := ⟨k - 1, by omega⟩
    have hr := rv_lt K i
    have hlen : ((pm K l).take i).length = i := by rw [List.length_take, pm_length]; omega
    have hd1 : decide ((K : Int) ≤ 9) = true := decide_eq_true (by omega)
    have hd2 : decide ((i : Int) ≤ (2 ^ K : Nat) - 1) = true := decide_eq_true (by omega)
    have e2 : spec_Reverse.f k (i : Int) (K : Int) = some ((rv K i : Nat) : Int) := by
      obtain ⟨k, rfl⟩ : ∃ m, k = m + 1 := ⟨k - 1, by omega⟩
      have e := sReverse_l0 K k (i : Int) (K : Int) 0 0 (by omega) (by omega) (by omega) (by omega) (by omega) (by omega) (by omega) (by have := two_pow_le (show K ≤ 9 by omega); omega)
      unfold spec_Reverse.f spec_l01In.f
      simp (disch := omega) only [u64_id, shl_one, hd1, Int.toNat_natCast, hpz, hd2, spec_Reverse.j0, w64, tmod_pos, tdiv_pos, ↓if_pos, ↓if_neg, if_pos, if_neg, if_true, if_false, Option.bind_some, Bool.false_eq_true, Bool.not_true, Bool.not_false, ↓reduceIte]
      rw [e]
      simp
    simp (disch := omega) only [spec_Permute.l0, e2, w64, tmod_pos, tdiv_pos, ↓if_pos, ↓if_neg, if_pos, if_neg, if_true, if_false, Option.bind_some, Bool.false_eq_true, Bool.not_true, Bool.not_false, ↓reduceIte]
    rw [← pm_rd (by omega), ← take_rd (by rw [pm_length]; omega)]
    exact ih k (i + 1) (by omega) (by omega) (by omega)
theorem sPermute_ok {K : Nat} (hK : K ≤ 9) {l : List Int} (hl : l.length = 2 ^ K) : Ev (fun k => spec_Permute.f k l) (pm K l) := by
  have hlg : lg (l.length : Int) = K := by rw [hl]; have := lg_pow hK; simpa using this
  obtain ⟨N, hN⟩ := sLogOf_ok (l.length : Int)
  rw [hlg] at hN
  refine ⟨N + K + l.length + 4, fun k hk => ?_⟩
  unfold spec_Permute.f
  simp (disch := omega) only [hN, w64, tmod_pos, tdiv_pos, ↓if_pos, ↓if_neg, if_pos, if_neg, if_true, if_false, Option.bind_some, Bool.false_eq_true, Bool.not_true, Bool.not_false, ↓reduceIte]
  exact sPermute_l0 hK l hl l.length k 0 (by omega) (by omega) (by omega)
theorem sPermute_no {l : List Int} (h : lg (l.length : Int) < 0) : Ev (fun k => spec_Permute.f k l) [] := by
  obtain ⟨N, hN⟩ := sLogOf_ok (l.length : Int)
  refine ⟨N, fun k hk => ?_⟩
  unfold spec_Permute.f
  simp (disch := omega) only [hN, w64, tmod_pos, tdiv_pos, ↓if_pos, ↓if_neg, if_pos, if_neg, if_true, if_false, Option.bind_some, Bool.false_eq_true, Bool.not_true, Bool.not_false, ↓reduceIte]

/-! ### roots -/
section
variable {f p g t : Int}
/-- The root of order 2^k. -/
def wr (p g : Int) (k : Nat) : Int := g ^ ((p.toNat - 1) / 2 ^ k) % p
theorem wr_rng {p : Int} (hp : 0 < p) (g : Int) (k : Nat) : 0 ≤ wr p g k ∧ wr p g k < p := emod_rng hp _
theorem IsF.g_ne (h : IsF p g t) : ¬ Cg p g 0 := fun hc => by
  have r := h.rng
  have := hc.eq (by omega) (by omega) (by omega) (by omega)
  omega
theorem wr_ne (h : IsF p g t) (k : Nat) : ¬ Cg p (wr p g k) 0 := fun hc => h.pow_ne h.g_ne _ ((Cg.mod p _).symm.trans hc)
theorem shr_p (h : IsF p g t) {k : Int} (h0 : 0 ≤ k) (hk : k ≤ 62) : (shr .i64 (p - 1) k).toNat = (p.toNat - 1) / 2 ^ k.toNat ∧ 0 ≤ shr .i64 (p - 1) k ∧ shr .i64 (p - 1) k ≤ p - 1 := by
  have r := h.rng
  have hp := two_pow_pos k.toNat
  rw [shr_ok h0 hk]
  have h1 : 0 ≤ (p - 1) / 2 ^ k.toNat := Int.ediv_nonneg (by omega) (by omega)
  have h2 : (p - 1) / 2 ^ k.toNat ≤ p - 1 := Int.ediv_le_self _ (by omega)
  refine ⟨?_, h1, h2⟩
  have e : (p - 1) = ((p.toNat - 1 : Nat) : Int) := by omega
  rw [e, show (2 : Int) ^ k.toNat = ((2 ^ k.toNat : Nat) : Int) by simp]
  exact Int.toNat_natCast _
theorem root_ok (h : IsF p g t) {k : Int} (h0 : 0 ≤ k) (hk : k ≤ 62) : Ev (fun n => impl_field_root.f n p g t k) (wr p g k.toNat) := by
  have r := h.rng
  have s := shr_p h h0 hk
  obtain ⟨K, hK⟩ := power_ok h (a := g) (e := shr .i64 (p - 1) k) (by omega) (by omega) s.2.1 (by omega)
  rw [s.1] at hK
  refine ⟨K, fun n hn => ?_⟩
  unfold impl_field_root.f
  simp (disch := omega) only [hK, w64, tmod_pos, tdiv_pos, ↓if_pos, ↓if_neg, if_pos, if_neg, if_true, if_false, Option.bind_some, Bool.false_eq_true, Bool.not_true, Bool.not_false, ↓reduceIte]
  rfl
theorem iRootOf_ok (h : FI f p g t) {k : Int} (h0 : 0 ≤ k) (hk : k ≤ t) : Ev (fun n => impl_RootOf.f n f k) (wr p g k.toNat) := by
  have r := h.isF.rng
  obtain ⟨K, hK⟩ := root_ok h.isF h0 (by omega)
  refine ⟨K, fun n hn => ?_⟩
  unfold impl_RootOf.f
  simp (disch := omega) only [fieldOf_ok h, hK, w64, tmod_pos, tdiv_pos, ↓if_pos, ↓if_neg, if_pos, if_neg, if_true, if_false, Option.bind_some, Bool.false_eq_true, Bool.not_true, Bool.not_false, ↓reduceIte]
theorem iRootOf_no (h : FI f p g t) {k : Int} (hk : k < 0 ∨ t < k) : Ev (fun n => impl_RootOf.f n f k) (-1) := by
  refine ⟨0, fun n hn => ?_⟩
  unfold impl_RootOf.f
  by_cases h0 : k < 0
  · simp (disch := omega) only [fieldOf_ok h, w64, tmod_pos, tdiv_pos, ↓if_pos, ↓if_neg, if_pos, if_neg, if_true, if_false, Option.bind_some, Bool.false_eq_true, Bool.not_true, Bool.not_false, ↓reduceIte]
  · simp (disch := omega) only [fieldOf_ok h, w64, tmod_pos, tdiv_pos, ↓if_pos, ↓if_neg, if_pos, if_neg, if_true, if_false, Option.bind_some, Bool.false_eq_true, Bool.not_true, Bool.not_false, ↓reduceIte]
theorem iRootOf_nof (h : f < 0 ∨ 9 ≤ f) (k : Int) : Ev (fun n => impl_RootOf.f n f k) (-1) := by
  refine ⟨0, fun n hn => ?_⟩
  unfold impl_RootOf.f
  simp (disch := omega) only [fieldOf_no h, w64, tmod_pos, tdiv_pos, ↓if_pos, ↓if_neg, if_pos, if_neg, if_true, if_false, Option.bind_some, Bool.false_eq_true, Bool.not_true, Bool.not_false, ↓reduceIte]
theorem sRootOf_ok (h : FI f p g t) {k : Int} (h0 : 0 ≤ k) (hk : k ≤ t) : Ev (fun n => spec_RootOf.f n f k) (wr p g k.toNat) := by
  have r := h.isF.rng
  have s := shr_p h.isF h0 (show k ≤ 62 by omega)
  have q1 := emod_rng (p := p - 1) (by omega) (shr .i64 (p - 1) k)
  obtain ⟨K, hK⟩ := Power_ok h h.isF.g_ne (e := shr .i64 (p - 1) k) (by omega) (by omega)
  obtain ⟨K2, hK2⟩ := Generator_ok h
  obtain ⟨K3, hK3⟩ := TwoPower_ok h
  have hd : decide (k ≤ t) = true := decide_eq_true hk
  refine ⟨K + K2 + K3 + 1, fun n hn => ?_⟩
  obtain ⟨n, rfl⟩ : ∃ m, n = m + 1 := ⟨n - 1, by omega⟩
  unfold spec_RootOf.f spec_l01In.f
  simp (disch := omega) only [Modulus_ok h, hK2, hK3, hd, spec_RootOf.j0, u64_id, hK, w64, tmod_pos, tdiv_pos, ↓if_pos, ↓if_neg, if_pos, if_neg, if_true, if_false, Option.bind_some, Bool.false_eq_true, Bool.not_true, Bool.not_false, ↓reduceIte]
  congr 1
  have e : g % p = g := Int.emod_eq_of_lt (by omega) (by omega)
  rw [e]
  unfold wr
  refine (h.isF.pow_cong h.isF.g_ne ?_).emod_eq
  rw [Int.toNat_of_nonneg q1.1, Int.emod_emod_of_dvd _ (Int.dvd_refl _), ← s.1, Int.toNat_of_nonneg s.2.1]
theorem sRootOf_no (h : FI f p g t) {k : Int} (hk : k < 0 ∨ t < k) : Ev (fun n => spec_RootOf.f n f k) (-1) := by
  have r := h.isF.rng
  obtain ⟨K3, hK3⟩ := TwoPower_ok h
  refine ⟨K3 + 1, fun n hn => ?_⟩
  obtain ⟨n, rfl⟩ : ∃ m, n = m + 1 := ⟨n - 1, by omega⟩
  unfold spec_RootOf.f spec_l01In.f
  by_cases h0 : k < 0
  · simp (disch := omega) only [Modulus_ok h, hK3, spec_RootOf.j0, w64, tmod_pos, tdiv_pos, ↓if_pos, ↓if_neg, if_pos, if_neg, if_true, if_false, Option.bind_some, Bool.false_eq_true, Bool.not_true, Bool.not_false, ↓reduceIte]
  · have hd : decide (k ≤ t) = false := decide_eq_false (by omega)
    simp (disch := omega) only [Modulus_ok h, hK3, hd, spec_RootOf.j0, w64, tmod_pos, tdiv_pos, ↓if_pos, ↓if_neg, if_pos, if_neg, if_true, if_false, Option.bind_some, Bool.false_eq_true, Bool.not_true, Bool.not_false, ↓reduceIte]
theorem sRootOf_nof (h : f < 0 ∨ 9 ≤ f) (k : Int) : Ev (fun n => spec_RootOf.f n f k) (-1) := by
  refine ⟨1, fun n hn => ?_⟩
  obtain ⟨n, rfl⟩ : ∃ m, n = m + 1 := ⟨n - 1, by omega⟩
  unfold spec_RootOf.f
  simp (disch := omega) only [Modulus_no h, spec_RootOf.j0, w64, tmod_pos, tdiv_pos, ↓if_pos, ↓if_neg, if_pos, if_neg, if_true, if_false, Option.bind_some, Bool.false_eq_true, Bool.not_true, Bool.not_false, ↓reduceIte]
/-- The powers of the root of order 2^k. -/
def rts (p g : Int) (k : Nat) : List Int := (List.range (2 ^ k)).map fun i => wr p g k ^ i % p
theorem rts_length (p g : Int) (k : Nat) : (rts p g k).length = 2 ^ k := by simp [rts]
theorem rts_rd {p g : Int} {k i : Nat} (h : i < 2 ^ k) : rd (rts p g k) (i : Int) = wr p g k ^ i % p := by
  rw [rd_at (by rw [rts_length]; exact h)]
  simp [rts]
theorem roots_l0 (h : IsF p g t) {K : Nat} (hK : K ≤ 9) (d : Nat) : ∀ (k i : Nat), d < k → 2 ^ K - i = d → 0 < i → i ≤ 2 ^ K →
    impl_field_roots.l0 k K ((rts p g K).take i) (wr p g K) p g t = some (rts p g K) := by
  have r := h.rng
  have hp : 2 ^ K ≤ 2 ^ 9 := Nat.pow_le_pow_right (by decide) hK
  have hpz : (2 : Int) ^ K = ((2 ^ K : Nat) : Int) := by simp
  have q := wr_rng (p := p) (by omega) g K
  induction d with
  | zero =>
    intro k i hk hd h0 hi
    obtain ⟨k, rfl⟩ : ∃ m, k = m + 1 := ⟨k - 1, by omega⟩
    obtain rfl : i = 2 ^ K := by omega
    rw [List.take_of_length_le (by rw [rts_length]; omega)]
    have hl := rts_length p g K
    simp (disch := omega) only [impl_field_roots.l0, shl_one, Int.toNat_natCast, w64, tmod_pos, tdiv_pos, ↓if_pos, ↓if_neg, if_pos, if_neg, if_true, if_false, Option.bind_some, Bool.false_eq_true, Bool.not_true, Bool.not_false, ↓reduceIte]
  | succ d ih =>
    intro k i hk hd h0 hi
    obtain ⟨k, rfl⟩ : ∃ m, k = m + 1 := ⟨k - 1, by omega⟩
    have hlen : ((rts p g K).take i).length = i := by rw [List.length_take, rts_length]; omega
    have e1 : rd ((rts p g K).take i) ((i : Int) - 1) = wr p g K ^ (i - 1) % p := by
      rw [show ((i : Int) - 1) = ((i - 1 : Nat) : Int) by omega, rd_at (by omega), List.getElem_take, ← rd_at, rts_rd (by omega)]
    have q1 := emod_rng (p := p) (by omega) (wr p g K ^ (i - 1))
    have e2 : wr p g K ^ (i - 1) % p * wr p g K % p = wr p g K ^ i % p := by
      refine (((Cg.mod p _).mul (Cg.refl p _)).trans (Cg.of_eq ?_)).emod_eq
      rw [← Int.pow_succ]
      congr 1
      omega
    have e3 := ih k (i + 1) (by omega) (by omega) (by omega) (by omega)
    rw [take_rd (by rw [rts_length]; omega), rts_rd (by omega)] at e3
    simp (disch := omega) only [impl_field_roots.l0, shl_one, Int.toNat_natCast, hpz, hlen, e1, mul_ok h q1.1 q1.2 q.1 q.2, e2, w64, tmod_pos, tdiv_pos, ↓if_pos, ↓if_neg, if_pos, if_neg, if_true, if_false, Option.bind_some, Bool.false_eq_true, Bool.not_true, Bool.not_false, ↓reduceIte]
    exact e3
theorem roots_ok (h : IsF p g t) {K : Nat} (hK : K ≤ 9) : Ev (fun n => impl_field_roots.f n p g t K) (rts p g K) := by
  have r := h.rng
  obtain ⟨N, hN⟩ := root_ok h (k := (K : Int)) (by omega) (by omega)
  rw [Int.toNat_natCast] at hN
  refine ⟨N + 2 ^ K + 1, fun n hn => ?_⟩
  unfold impl_field_roots.f
  have hp := Nat.two_pow_pos K
  simp (disch := omega) only [hN, w64, tmod_pos, tdiv_pos, ↓if_pos, ↓if_neg, if_pos, if_neg, if_true, if_false, Option.bind_some, Bool.false_eq_true, Bool.not_true, Bool.not_false, ↓reduceIte]
  have e := roots_l0 h hK (2 ^ K - 1) n 1 (by omega) (by omega) (by omega) (by omega)
  have e2 : (rts p g K).take 1 = [1] := by
    have := take_rd (l := rts p g K) (i := 0) (by rw [rts_length]; omega)
    rw [Int.natCast_zero] at this
    have e3 := rts_rd (p := p) (g := g) (k := K) (i := 0) (by omega)
    rw [Int.natCast_zero, Int.pow_zero, Int.emod_eq_of_lt (by omega) (by omega)] at e3
    rw [this, e3]
    simp
  rw [e2] at e
  exact e
theorem iRoots_ok (h : FI f p g t) {K : Nat} (hK : K ≤ 9) (ht : (K : Int) ≤ t) : Ev (fun n => impl_Roots.f n f K) (rts p g K) := by
  obtain ⟨N, hN⟩ := roots_ok h.isF hK
  have hm : (K : Int) ≤ mn t 9 := by unfold mn; split <;> omega
  refine ⟨N, fun n hn => ?_⟩
  unfold impl_Roots.f
  simp (disch := omega) only [fieldOf_ok h, hN, w64, tmod_pos, tdiv_pos, ↓if_pos, ↓if_neg, if_pos, if_neg, if_true, if_false, Option.bind_some, Bool.false_eq_true, Bool.not_true, Bool.not_false, ↓reduceIte]
theorem iRoots_no (h : FI f p g t) {k : Int} (hk : k < 0 ∨ t < k ∨ 9 < k) : Ev (fun n => impl_Roots.f n f k) [] := by
  have hm := mn_le t 9
  refine ⟨0, fun n hn => ?_⟩
  unfold impl_Roots.f
  by_cases h0 : k < 0
  · simp (disch := omega) only [fieldOf_ok h, w64, tmod_pos, tdiv_pos, ↓if_pos, ↓if_neg, if_pos, if_neg, if_true, if_false, Option.bind_some, Bool.false_eq_true, Bool.not_true, Bool.not_false, ↓reduceIte]
  · simp (disch := omega) only [fieldOf_ok h, w64, tmod_pos, tdiv_pos, ↓if_pos, ↓if_neg, if_pos, if_neg, if_true, if_false, Option.bind_some, Bool.false_eq_true, Bool.not_true, Bool.not_false, ↓reduceIte]
theorem iRoots_nof (h : f < 0 ∨ 9 ≤ f) (k : Int) : Ev (fun n => impl_Roots.f n f k) [] := by
  refine ⟨0, fun n hn => ?_⟩
  unfold impl_Roots.f
  simp (disch := omega) only [fieldOf_no h, w64, tmod_pos, tdiv_pos, ↓if_pos, ↓if_neg, if_pos, if_neg, if_true, if_false, Option.bind_some, Bool.false_eq_true, Bool.not_true, Bool.not_false, ↓reduceIte]
theorem IsF.two_pow_lt (h : IsF p g t) {k : Nat} (hk : (k : Int) ≤ t) : (2 : Int) ^ k ≤ p - 1 := by
  have e : (2 : Int) ^ k ≤ 2 ^ t.toNat := two_pow_le (by omega)
  refine Int.le_trans e ?_
  rcases h with ⟨rfl, _, rfl⟩ | ⟨rfl, _, rfl⟩ | ⟨rfl, _, rfl⟩ | ⟨rfl, _, rfl⟩ | ⟨rfl, _, rfl⟩ | ⟨rfl, _, rfl⟩ | ⟨rfl, _, rfl⟩ | ⟨rfl, _, rfl⟩ | ⟨rfl, _, rfl⟩ <;> decide
theorem sRoots_l0 (h : FI f p g t) {K : Nat} (hK : K ≤ 9) (ht : (K : Int) ≤ t) (d : Nat) : ∃ N, ∀ (k i : Nat), N + d < k → 2 ^ K - i = d → i ≤ 2 ^ K →
    spec_Roots.l0 k f K ((rts p g K).take i) (wr p g K) i = some (rts p g K) := by
  have r := h.isF.rng
  have hp : 2 ^ K ≤ 2 ^ 9 := Nat.pow_le_pow_right (by decide) hK
  have hpz : (2 : Int) ^ K = ((2 ^ K : Nat) : Int) := by simp
  have q := wr_rng (p := p) (by omega) g K
  have hl := rts_length p g K
  have hlt := h.isF.two_pow_lt ht
  induction d with
  | zero =>
    refine ⟨0, fun k i hk hd hi => ?_⟩
    obtain ⟨k, rfl⟩ : ∃ m, k = m + 1 := ⟨k - 1, by omega⟩
    obtain rfl : i = 2 ^ K := by omega
    rw [List.take_of_length_le (by omega)]
    simp (disch := omega) only [spec_Roots.l0, u64_id, shl_one, Int.toNat_natCast, w64, tmod_pos, tdiv_pos, ↓if_pos, ↓if_neg, if_pos, if_neg, if_true, if_false, Option.bind_some, Bool.false_eq_true, Bool.not_true, Bool.not_false, ↓reduceIte]
  | succ d ih =>
    obtain ⟨N, ih⟩ := ih
    by_cases hd1 : d < 2 ^ K
    · obtain ⟨N', hN'⟩ := Power_ok h (wr_ne h.isF K) (e := ((2 ^ K - (d + 1) : Nat) : Int)) (by omega) (by omega)
      refine ⟨N + N', fun k i hk hd hi => ?_⟩
      obtain ⟨k, rfl⟩ : ∃ m, k = m + 1 := ⟨k - 1, by omega⟩
      obtain rfl : i = 2 ^ K - (d + 1) := by omega
      have hlen : ((rts p g K).take (2 ^ K - (d + 1))).length = 2 ^ K - (d + 1) := by rw [List.length_take, rts_length]; omega
      have e1 : (wr p g K % p) ^ (((2 ^ K - (d + 1) : Nat) : Int) % (p - 1)).toNat % p = wr p g K ^ (2 ^ K - (d + 1)) % p := by
        have e0 : ((2 ^ K - (d + 1) : Nat) : Int) % (p - 1) = ((2 ^ K - (d + 1) : Nat) : Int) := Int.emod_eq_of_lt (by omega) (by omega)
        rw [e0, Int.toNat_natCast, Int.emod_eq_of_lt q.1 q.2]
      rw [e1] at hN'
      have e3 := ih k (2 ^ K - (d + 1) + 1) (by omega) (by omega) (by omega)
      rw [take_rd (by rw [rts_length]; omega), rts_rd (by omega)] at e3
      simp (disch := omega) only [spec_Roots.l0, u64_id, shl_one, Int.toNat_natCast, hpz, hN', w64, tmod_pos, tdiv_pos, ↓if_pos, ↓if_neg, if_pos, if_neg, if_true, if_false, Option.bind_some, Bool.false_eq_true, Bool.not_true, Bool.not_false, ↓reduceIte]
      exact e3
    · exact ⟨0, fun k i hk hd hi => by omega⟩
theorem sRoots_ok (h : FI f p g t) {K : Nat} (hK : K ≤ 9) (ht : (K : Int) ≤ t) : Ev (fun n => spec_Roots.f n f K) (rts p g K) := by
  have r := h.isF.rng
  have q := wr_rng (p := p) (by omega) g K
  obtain ⟨N, hN⟩ := sRootOf_ok h (k := (K : Int)) (by omega) ht
  rw [Int.toNat_natCast] at hN
  obtain ⟨N2, hN2⟩ := sRoots_l0 h hK ht (2 ^ K)
  have hpn := Nat.two_pow_pos K
  have hd : decide ((K : Int) > 9) = false := decide_eq_false (by omega)
  refine ⟨N + N2 + 2 ^ K + 2, fun n hn => ?_⟩
  obtain ⟨n, rfl⟩ : ∃ m, n = m + 1 := ⟨n - 1, by omega⟩
  unfold spec_Roots.f
  simp (disch := omega) only [hN, hd, spec_Roots.j0, w64, tmod_pos, tdiv_pos, ↓if_pos, ↓if_neg, if_pos, if_neg, if_true, if_false, Option.bind_some, Bool.false_eq_true, Bool.not_true, Bool.not_false, ↓reduceIte]
  exact hN2 n 0 (by omega) (by omega) (by omega)
theorem sRoots_no (h : FI f p g t) {k : Int} (hk : k < 0 ∨ t < k ∨ 9 < k) : Ev (fun n => spec_Roots.f n f k) [] := by
  have r := h.isF.rng
  by_cases h2 : k < 0 ∨ t < k
  · obtain ⟨N, hN⟩ := sRootOf_no h h2
    refine ⟨N + 1, fun n hn => ?_⟩
    obtain ⟨n, rfl⟩ : ∃ m, n = m + 1 := ⟨n - 1, by omega⟩
    unfold spec_Roots.f
    simp (disch := omega) only [hN, spec_Roots.j0, w64, tmod_pos, tdiv_pos, ↓if_pos, ↓if_neg, if_pos, if_neg, if_true, if_false, Option.bind_some, Bool.false_eq_true, Bool.not_true, Bool.not_false, ↓reduceIte]
  · have hd : decide (k > 9) = true := decide_eq_true (by omega)
    have q := wr_rng (p := p) (by omega) g k.toNat
    obtain ⟨N, hN⟩ := sRootOf_ok h (k := k) (by omega) (by omega)
    refine ⟨N + 1, fun n hn => ?_⟩
    obtain ⟨n, rfl⟩ : ∃ m, n = m + 1 := ⟨n - 1, by omega⟩
    unfold spec_Roots.f
    simp (disch := omega) only [hN, hd, spec_Roots.j0, w64, tmod_pos, tdiv_pos, ↓if_pos, ↓if_neg, if_pos, if_neg, if_true, if_false, Option.bind_some, Bool.false_eq_true, Bool.not_true, Bool.not_false, ↓reduceIte]
theorem sRoots_nof (h : f < 0 ∨ 9 ≤ f) (k : Int) : Ev (fun n => spec_Roots.f n f k) [] := by
  obtain ⟨N, hN⟩ := sRootOf_nof h k
  refine ⟨N + 1, fun n hn => ?_⟩
  obtain ⟨n, rfl⟩ : ∃ m, n = m + 1 := ⟨n - 1, by omega⟩
  unfold spec_Roots.f
  simp (disch := omega) only [hN, spec_Roots.j0, w64, tmod_pos, tdiv_pos, ↓if_pos, ↓if_neg, if_pos, if_neg, if_true, if_false, Option.bind_some, Bool.false_eq_true, Bool.not_true, Bool.not_false, ↓reduceIte]
theorem iRootSum_ok (h : FI f p g t) {K : Nat} (hK : K ≤ 9) (ht : (K : Int) ≤ t) (j : Int) : Ev (fun n => impl_RootSum.f n f K j) (if Int.tmod j (2 ^ K) = 0 then 2 ^ K % p else 0) := by
  have hp := two_pow_pos K
  have hd : decide ((K : Int) > mn t 9) = false := decide_eq_false (by unfold mn; split <;> omega)
  refine ⟨1, fun n hn => ?_⟩
  obtain ⟨n, rfl⟩ : ∃ m, n = m + 1 := ⟨n - 1, by omega⟩
  unfold impl_RootSum.f
  by_cases hj : Int.tmod j (2 ^ K) = 0
  · simp (disch := omega) only [fieldOf_ok h, hd, impl_RootSum.j0, shl_one, Int.toNat_natCast, hj, reduce_ok h.isF, w64, tmod_pos, tdiv_pos, ↓if_pos, ↓if_neg, if_pos, if_neg, if_true, if_false, Option.bind_some, Bool.false_eq_true, Bool.not_true, Bool.not_false, ↓reduceIte]
  · simp (disch := omega) only [fieldOf_ok h, hd, impl_RootSum.j0, shl_one, Int.toNat_natCast, hj, w64, tmod_pos, tdiv_pos, ↓if_pos, ↓if_neg, if_pos, if_neg, if_true, if_false, Option.bind_some, Bool.false_eq_true, Bool.not_true, Bool.not_false, ↓reduceIte]
theorem iRootSum_no (h : FI f p g t) {k : Int} (hk : k < 0 ∨ t < k ∨ 9 < k) (j : Int) : Ev (fun n => impl_RootSum.f n f k j) (-1) := by
  have hm := mn_le t 9
  refine ⟨1, fun n hn => ?_⟩
  obtain ⟨n, rfl⟩ : ∃ m, n = m + 1 := ⟨n - 1, by omega⟩
  unfold impl_RootSum.f
  by_cases h0 : k < 0
  · simp (disch := omega) only [fieldOf_ok h, impl_RootSum.j0, w64, tmod_pos, tdiv_pos, ↓if_pos, ↓if_neg, if_pos, if_neg, if_true, if_false, Option.bind_some, Bool.false_eq_true, Bool.not_true, Bool.not_false, ↓reduceIte]
  · have hd : decide (k > mn t 9) = true := decide_eq_true (by omega)
    simp (disch := omega) only [fieldOf_ok h, impl_RootSum.j0, hd, w64, tmod_pos, tdiv_pos, ↓if_pos, ↓if_neg, if_pos, if_neg, if_true, if_false, Option.bind_some, Bool.false_eq_true, Bool.not_true, Bool.not_false, ↓reduceIte]
theorem iRootSum_nof (h : f < 0 ∨ 9 ≤ f) (k j : Int) : Ev (fun n => impl_RootSum.f n f k j) (-1) := by
  refine ⟨1, fun n hn => ?_⟩
  obtain ⟨n, rfl⟩ : ∃ m, n = m + 1 := ⟨n - 1, by omega⟩
  unfold impl_RootSum.f
  simp (disch := omega) only [fieldOf_no h, impl_RootSum.j0, w64, tmod_pos, tdiv_pos, ↓if_pos, ↓if_neg, if_pos, if_neg, if_true, if_false, Option.bind_some, Bool.false_eq_true, Bool.not_true, Bool.not_false, ↓reduceIte]
theorem sRootSum_ok (h : FI f p g t) {K : Nat} (hK : K ≤ 9) (ht : (K : Int) ≤ t) (j : Int) : Ev (fun n => spec_RootSum.f n f K j) (if Int.tmod j (2 ^ K) = 0 then 2 ^ K % p else 0) := by
  have r := h.isF.rng
  have q := wr_rng (p := p) (by omega) g K
  have hp := two_pow_pos K
  obtain ⟨N, hN⟩ := sRootOf_ok h (k := (K : Int)) (by omega) ht
  rw [Int.toNat_natCast] at hN
  have hd : decide ((K : Int) > 9) = false := decide_eq_false (by omega)
  refine ⟨N + 1, fun n hn => ?_⟩
  obtain ⟨n, rfl⟩ : ∃ m, n = m + 1 := ⟨n - 1, by omega⟩
  unfold spec_RootSum.f
  by_cases hj : Int.tmod j (2 ^ K) = 0
  · simp (disch := omega) only [hN, hd, spec_RootSum.j0, u64_id, shl_one, Int.toNat_natCast, hj, Reduce_ok h, w64, tmod_pos, tdiv_pos, ↓if_pos, ↓if_neg, if_pos, if_neg, if_true, if_false, Option.bind_some, Bool.false_eq_true, Bool.not_true, Bool.not_false, ↓reduceIte]
  · simp (disch := omega) only [hN, hd, spec_RootSum.j0, u64_id, shl_one, Int.toNat_natCast, hj, w64, tmod_pos, tdiv_pos, ↓if_pos, ↓if_neg, if_pos, if_neg, if_true, if_false, Option.bind_some, Bool.false_eq_true, Bool.not_true, Bool.not_false, ↓reduceIte]
theorem sRootSum_no (h : FI f p g t) {k : Int} (hk : k < 0 ∨ t < k ∨ 9 < k) (j : Int) : Ev (fun n => spec_RootSum.f n f k j) (-1) := by
  have r := h.isF.rng
  by_cases h2 : k < 0 ∨ t < k
  · obtain ⟨N, hN⟩ := sRootOf_no h h2
    refine ⟨N + 1, fun n hn => ?_⟩
    obtain ⟨n, rfl⟩ : ∃ m, n = m + 1 := ⟨n - 1, by omega⟩
    unfold spec_RootSum.f
    simp (disch := omega) only [hN, spec_RootSum.j0, w64, tmod_pos, tdiv_pos, ↓if_pos, ↓if_neg, if_pos, if_neg, if_true, if_false, Option.bind_some, Bool.false_eq_true, Bool.not_true, Bool.not_false, ↓reduceIte]
  · have hd : decide (k > 9) = true := decide_eq_true (by omega)
    have q := wr_rng (p := p) (by omega) g k.toNat
    obtain ⟨N, hN⟩ := sRootOf_ok h (k := k) (by omega) (by omega)
    refine ⟨N + 1, fun n hn => ?_⟩
    obtain ⟨n, rfl⟩ : ∃ m, n = m + 1 := ⟨n - 1, by omega⟩
    unfold spec_RootSum.f
    simp (disch := omega) only [hN, hd, spec_RootSum.j0, w64, tmod_pos, tdiv_pos, ↓if_pos, ↓if_neg, if_pos, if_neg, if_true, if_false, Option.bind_some, Bool.false_eq_true, Bool.not_true, Bool.not_false, ↓reduceIte]
theorem sRootSum_nof (h : f < 0 ∨ 9 ≤ f) (k j : Int) : Ev (fun n => spec_RootSum.f n f k j) (-1) := by
  obtain ⟨N, hN⟩ := sRootOf_nof h k
  refine ⟨N + 1, fun n hn => ?_⟩
  obtain ⟨n, rfl⟩ : ∃ m, n = m + 1 := ⟨n - 1, by omega⟩
  unfold spec_RootSum.f
  simp (disch := omega) only [hN, spec_RootSum.j0, w64, tmod_pos, tdiv_pos, ↓if_pos, ↓if_neg, if_pos, if_neg, if_true, if_false, Option.bind_some, Bool.false_eq_true, Bool.not_true, Bool.not_false, ↓reduceIte]
end

end Go.Proofs.Ytohneiapknlpgaa.M
