/- What Permute, RootOf, Roots and RootSum compute, of the program and of the reference. -/
import Derived.Test.YtohneiapknlpgaaZFnPermuteTwiceMa
import Derived.Test.YtohneiapknlpgaaZFnPermuteTwiceMb
import Derived.Test.YtohneiapknlpgaaZFnPermuteTwiceMc
import Derived.Test.YtohneiapknlpgaaZFnPermuteTwiceMd
import Derived.Test.YtohneiapknlpgaaZFnPermuteTwiceMe
import Derived.Test.YtohneiapknlpgaaZFnPermuteTwiceMh
import Derived.Test.YtohneiapknlpgaaZFnPermuteTwiceMi
import Derived.Test.YtohneiapknlpgaaWWords
import Derived.Test.YtohneiapknlpgaaWMore
import Derived.Test.YtohneiapknlpgaaZFnPermuteTwice1
namespace Go.Proofs.Ytohneiapknlpgaa.M
open Go.RowKit Go.Proofs.Ytohneiapknlpgaa.P Go.Proofs.YtohneiapknlpgaaW.PrintWords Go.Proofs.YtohneiapknlpgaaW.PrintLast Go.Proofs.YtohneiapknlpgaaW.PrintMore
set_option linter.unusedVariables false
set_option linter.unusedSimpArgs false

/-! ### Permute -/
/-- The list with each element at the reversed index. -/
def pm (k : Nat) (l : List Int) : List Int := (List.range l.length).map fun j => rd l ((rv k j : Nat) : Int)
theorem pm_length (k : Nat) (l : List Int) : (pm k l).length = l.length := by simp [pm]
theorem pm_rd {k : Nat} {l : List Int} {j : Nat} (h : j < l.length) : rd (pm k l) (j : Int) = rd l ((rv k j : Nat) : Int) := by
  rw [rd_at (by rw [pm_length]; exact h)]
  simp [pm]
theorem pm_pm {k : Nat} {l : List Int} (h : l.length = 2 ^ k) : pm k (pm k l) = l := by
  apply List.ext_getElem
  · simp [pm]
  · intro j h1 h2
    have hr := rv_lt k j
    rw [← rd_at h1, ← rd_at h2, pm_rd (by rw [pm_length]; exact h2), pm_rd (by omega), rv_rv k j (by omega)]
theorem set_getD (l : List Int) (i j : Nat) (v : Int) (hi : i < l.length) : (l.set i v).getD j 0 = if i = j then v else l.getD j 0 := by
  simp only [List.getD_eq_getElem?_getD, List.getElem?_set]
  split <;> simp_all
theorem permuted_l0 {K : Nat} (hK : K ≤ 9) (l : List Int) (hl : l.length = 2 ^ K) (d : Nat) : ∀ (k i : Nat) (x : List Int), K + d + 1 < k → l.length - i = d → i ≤ l.length → x.length = l.length →
    (∀ j, j < l.length → x.getD j 0 = if rv K j < i then l.getD (rv K j) 0 else 0) → impl_permuted.l0 k K x l l.length i = some (pm K l) := by
  have hp : 2 ^ K ≤ 2 ^ 9 := Nat.pow_le_pow_right (by decide) hK
  have hpz : (2 : Int) ^ K = ((2 ^ K : Nat) : Int) := by simp
  induction d with
  | zero =>
    intro k i x hk hd hi hx hj
    obtain ⟨k, rfl⟩ : ∃ m, k = m + 1 := ⟨k - 1, by omega⟩
    obtain rfl : i = l.length := by omega
    simp (disch := omega) only [impl_permuted.l0, w64, tmod_pos, tdiv_pos, ↓if_pos, ↓if_neg, if_pos, if_neg, if_true, if_false, Option.bind_some, Bool.false_eq_true, Bool.not_true, Bool.not_false, ↓reduceIte]
    congr 1
    apply List.ext_getElem
    · rw [pm_length, hx]
    · intro j h1 h2
      have h3 := hj j (by omega)
      have hr := rv_lt K j
      rw [if_pos (by omega)] at h3
      rw [← rd_at h2, pm_rd (by omega), rd_nat, ← h3]
      simp [h1]
  | succ d ih =>
    intro k i x hk hd hi hx hj
    obtain ⟨k, rfl⟩ : ∃ m, k = m + 1 := ⟨k - 1, by omega⟩
    have hr := rv_lt K i
    have e := reversed_l0 K k (i : Int) 0 (K : Int) 0 (by omega) (by omega) (by omega) (by omega) (by omega) (by omega) (by omega) (by decide)
    have e2 : impl_reversed.f k (i : Int) (K : Int) = some ((rv K i : Nat) : Int) := by
      unfold impl_reversed.f
      rw [e]
      simp
    simp (disch := omega) only [impl_permuted.l0, e2, Int.toNat_natCast, w64, tmod_pos, tdiv_pos, ↓if_pos, ↓if_neg, if_pos, if_neg, if_true, if_false, Option.bind_some, Bool.false_eq_true, Bool.not_true, Bool.not_false, ↓reduceIte]
    refine ih k (i + 1) _ (by omega) (by omega) (by omega) (by rw [List.length_set, hx]) (fun j hjl => ?_)
    rw [set_getD _ _ _ _ (by omega), hj j hjl, rd_nat]
    by_cases hc : rv K i = j
    · subst hc
      rw [if_pos rfl, rv_rv K i (by omega), if_pos (by omega)]
    · rw [if_neg hc]
      have : rv K j ≠ i := fun h => hc (by rw [← h, rv_rv K j (by omega)])
      by_cases h3 : rv K j < i
      · rw [if_pos h3, if_pos (by omega)]
      · rw [if_neg h3, if_neg (by omega)]
theorem permuted_ok {K : Nat} (hK : K ≤ 9) {l : List Int} (hl : l.length = 2 ^ K) : Ev (fun k => impl_permuted.f k l) (pm K l) := by
  have hp : 2 ^ K ≤ 2 ^ 9 := Nat.pow_le_pow_right (by decide) hK
  have hlg : lg (l.length : Int) = K := by rw [hl]; have := lg_pow hK; simpa using this
  obtain ⟨N, hN⟩ := logOf_ok (l.length : Int)
  rw [hlg] at hN
  refine ⟨N + K + l.length + 2, fun k hk => ?_⟩
  unfold impl_permuted.f
  simp (disch := omega) only [hN, Int.toNat_natCast, w64, tmod_pos, tdiv_pos, ↓if_pos, ↓if_neg, if_pos, if_neg, if_true, if_false, Option.bind_some, Bool.false_eq_true, Bool.not_true, Bool.not_false, ↓reduceIte]
  refine permuted_l0 hK l hl l.length k 0 _ (by omega) (by omega) (by omega) (by simp) (fun j hj => ?_)
  rw [if_neg (by omega)]
  simp [List.getD_eq_getElem?_getD, List.getElem?_replicate, hj]
theorem iPermute_ok {K : Nat} (hK : K ≤ 9) {l : List Int} (hl : l.length = 2 ^ K) : Ev (fun k => impl_Permute.f k l) (pm K l) := by
  have hlg : lg (l.length : Int) = K := by rw [hl]; have := lg_pow hK; simpa using this
  obtain ⟨N, hN⟩ := logOf_ok (l.length : Int)
  rw [hlg] at hN
  obtain ⟨N', hN'⟩ := permuted_ok hK hl
  refine ⟨N + N', fun k hk => ?_⟩
  unfold impl_Permute.f
  simp (disch := omega) only [hN, hN', w64, tmod_pos, tdiv_pos, ↓if_pos, ↓if_neg, if_pos, if_neg, if_true, if_false, Option.bind_some, Bool.false_eq_true, Bool.not_true, Bool.not_false, ↓reduceIte]
theorem iPermute_no {l : List Int} (h : lg (l.length : Int) < 0) : Ev (fun k => impl_Permute.f k l) [] := by
  obtain ⟨N, hN⟩ := logOf_ok (l.length : Int)
  refine ⟨N, fun k hk => ?_⟩
  unfold impl_Permute.f
  simp (disch := omega) only [hN, w64, tmod_pos, tdiv_pos, ↓if_pos, ↓if_neg, if_pos, if_neg, if_true, if_false, Option.bind_some, Bool.false_eq_true, Bool.not_true, Bool.not_false, ↓reduceIte]

/-! ### roots -/
section
variable {f p g t : Int}
/-- The root of order 2^k. -/
def wr (p g : Int) (k : Nat) : Int := g ^ ((p.toNat - 1) / 2 ^ k) % p
theorem wr_rng {p : Int} (hp : 0 < p) (g : Int) (k : Nat) : 0 ≤ wr p g k ∧ wr p g k < p := emod_rng hp _
theorem IsF.g_ne (h : IsF p g t) : ¬ Cg p g 0 := fun hc => by
  have r := h.rng
  have := hc.eq (by omega) (by omega) (by omega) (by omega)
  omega
theorem wr_ne (h : IsF p g t) (k : Nat) : ¬ Cg p (wr p g k) 0 := fun hc => h.pow_ne h.g_ne _ ((Cg.mod p _).symm.trans hc)
theorem shr_p (h : IsF p g t) {k : Int} (h0 : 0 ≤ k) (hk : k ≤ 62) : (shr .i64 (p - 1) k).toNat = (p.toNat - 1) / 2 ^ k.toNat ∧ 0 ≤ shr .i64 (p - 1) k ∧ shr .i64 (p - 1) k ≤ p - 1 := by
  have r := h.rng
  have hp := two_pow_pos k.toNat
  rw [shr_ok h0 hk]
  have h1 : 0 ≤ (p - 1) / 2 ^ k.toNat := Int.ediv_nonneg (by omega) (by omega)
  have h2 : (p - 1) / 2 ^ k.toNat ≤ p - 1 := Int.ediv_le_self _ (by omega)
  refine ⟨?_, h1, h2⟩
  have e : (p - 1) = ((p.toNat - 1 : Nat) : Int) := by omega
  rw [e, show (2 : Int) ^ k.toNat = ((2 ^ k.toNat : Nat) : Int) by simp]
  exact Int.toNat_natCast _
/-- The powers of the root of order 2^k. -/
def rts (p g : Int) (k : Nat) : List Int := (List.range (2 ^ k)).map fun i => wr p g k ^ i % p
theorem rts_length (p g : Int) (k : Nat) : (rts p g k).length = 2 ^ k := by simp [rts]
theorem rts_rd {p g : Int} {k i : Nat} (h : i < 2 ^ k) : rd (rts p g k) (i : Int) = wr p g k ^ i % p := by
  rw [rd_at (by rw [rts_length]; exact h)]
  simp [rts]
end

end Go.Proofs.Ytohneiapknlpgaa.M
