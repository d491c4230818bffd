import Derived.Test.YtohneiapknlpgaaG0
/- What Permute, RootOf, Roots and RootSum compute, of the program and of the reference. -/
import Derived.Test.YtohneiapknlpgaaZFnSquaresMa
import Derived.Test.YtohneiapknlpgaaZFnSquaresMb
import Derived.Test.YtohneiapknlpgaaZFnSquaresMc
import Derived.Test.YtohneiapknlpgaaZFnSquaresMd
import Derived.Test.YtohneiapknlpgaaZFnSquaresMe
import Derived.Test.YtohneiapknlpgaaZFnSquaresMh
import Derived.Test.YtohneiapknlpgaaZFnSquaresMi
import Derived.Test.YtohneiapknlpgaaWWords
import Derived.Test.YtohneiapknlpgaaWMore
namespace Go.Proofs.Ytohneiapknlpgaa.M
open Go.RowKit Go.Proofs.Ytohneiapknlpgaa.P Go.Proofs.YtohneiapknlpgaaW.PrintWords Go.Proofs.YtohneiapknlpgaaW.PrintLast Go.Proofs.YtohneiapknlpgaaW.PrintMore
set_option linter.unusedVariables false
set_option linter.unusedSimpArgs false

/-! ### Permute -/
/-- The list with each element at the reversed index. -/
def pm (k : Nat) (l : List Int) : List Int := (List.range l.length).map fun j => rd l ((rv k j : Nat) : Int)
theorem pm_length (k : Nat) (l : List Int) : (pm k l).length = l.length := by simp [pm]
theorem pm_rd {k : Nat} {l : List Int} {j : Nat} (h : j < l.length) : rd (pm k l) (j : Int) = rd l ((rv k j : Nat) : Int) := by
  rw [rd_at (by rw [pm_length]; exact h)]
  simp [pm]
theorem pm_pm {k : Nat} {l : List Int} (h : l.length = 2 ^ k) : pm k (pm k l) = l := by
  apply List.ext_getElem
  · simp [pm]
  · intro j h1 h2
    have hr := rv_lt k j
    rw [← rd_at h1, ← rd_at h2, pm_rd (by rw [pm_length]; exact h2), pm_rd (by omega), rv_rv k j (by omega)]
theorem set_getD (l : List Int) (i j : Nat) (v : Int) (hi : i < l.length) : (l.set i v).getD j 0 = if i = j then v else l.getD j 0 := by
  simp only [List.getD_eq_getElem?_getD, List.getElem?_set]
  split <;> simp_all

/-! ### roots -/
section
variable {f p g t : Int}
/-- The root of order 2^k. -/
def wr (p g : Int) (k : Nat) : Int := g ^ ((p.toNat - 1) / 2 ^ k) % p
theorem wr_rng {p : Int} (hp : 0 < p) (g : Int) (k : Nat) : 0 ≤ wr p g k ∧ wr p g k < p := emod_rng hp _
theorem IsF.g_ne (h : IsF p g t) : ¬ Cg p g 0 := fun hc => by
  have r := h.rng
  have := hc.eq (by omega) (by omega) (by omega) (by omega)
  omega
theorem wr_ne (h : IsF p g t) (k : Nat) : ¬ Cg p (wr p g k) 0 := fun hc => h.pow_ne h.g_ne _ ((Cg.mod p _).symm.trans hc)
theorem shr_p (h : IsF p g t) {k : Int} (h0 : 0 ≤ k) (hk : k ≤ 62) : (shr .i64 (p - 1) k).toNat = (p.toNat - 1) / 2 ^ k.toNat ∧ 0 ≤ shr .i64 (p - 1) k ∧ shr .i64 (p - 1) k ≤ p - 1 := by
  have r := h.rng
  have hp := two_pow_pos k.toNat
  rw [shr_ok h0 hk]
  have h1 : 0 ≤ (p - 1) / 2 ^ k.toNat := Int.ediv_nonneg (by omega) (by omega)
  have h2 : (p - 1) / 2 ^ k.toNat ≤ p - 1 := Int.ediv_le_self _ (by omega)
  refine ⟨?_, h1, h2⟩
  have e : (p - 1) = ((p.toNat - 1 : Nat) : Int) := by omega
  rw [e, show (2 : Int) ^ k.toNat = ((2 ^ k.toNat : Nat) : Int) by simp]
  exact Int.toNat_natCast _
/-- The powers of the root of order 2^k. -/
def rts (p g : Int) (k : Nat) : List Int := (List.range (2 ^ k)).map fun i => wr p g k ^ i % p
theorem rts_length (p g : Int) (k : Nat) : (rts p g k).length = 2 ^ k := by simp [rts]
theorem rts_rd {p g : Int} {k i : Nat} (h : i < 2 ^ k) : rd (rts p g k) (i : Int) = wr p g k ^ i % p := by
  rw [rd_at (by rw [rts_length]; exact h)]
  simp [rts]
end

end Go.Proofs.Ytohneiapknlpgaa.M
