import Derived.Test.YtginidfoikheaaaG0
/- What the exported functions of the first chapter compute, of the program and of the reference, in one wording. -/
import Derived.Test.YtginidfoikheaaaZFnOrderLeastMa
import Derived.Test.YtginidfoikheaaaZFnOrderLeastMb
import Derived.Test.YtginidfoikheaaaZFnOrderLeastMc
import Derived.Test.YtginidfoikheaaaZFnOrderLeast2
import Derived.Test.YtginidfoikheaaaZFnOrderLeast0
namespace Go.Proofs.Ytginidfoikheaaa.M
open Go.RowKit Go.Proofs.Ytginidfoikheaaa.P Go.Proofs.YtginidfoikheaaaW.PrintWords Go.Proofs.YtginidfoikheaaaW.PrintLast Go.Proofs.YtginidfoikheaaaW.PrintMore
set_option linter.unusedVariables false
set_option linter.unusedSimpArgs false

theorem IsF.pow_cong {p g t : Int} (h : IsF p g t) {a : Int} (ha : ¬ Cg p a 0) {m n : Nat} (hmn : (m : Int) % (p - 1) = (n : Int) % (p - 1)) : Cg p (a ^ m) (a ^ n) := by
  have r := h.rng
  refine (h.pow_mod ha m).trans (Cg.trans (Cg.of_eq ?_) (h.pow_mod ha n).symm)
  congr 1
  have e : ((p.toNat - 1 : Nat) : Int) = p - 1 := by omega
  have : ((m % (p.toNat - 1) : Nat) : Int) = ((n % (p.toNat - 1) : Nat) : Int) := by rw [Int.natCast_emod, Int.natCast_emod, e, hmn]
  exact Int.ofNat_inj.mp this

section
variable {f p g t : Int}
theorem iPower_ok (h : FI f p g t) {a : Int} (ha : ¬ Cg p a 0) {e : Int} (h0 : -9223372036854775808 ≤ e) (h1 : e ≤ 9223372036854775807) :
    Ev (fun k => impl_Power.f k f a e) ((a % p) ^ (e % (p - 1)).toNat % p) := by
  have r := h.isF.rng
  have q := emod_rng (p := p) (by omega) a
  have q1 := emod_rng (p := p - 1) (by omega) e
  have hx : a % p ≠ 0 := fun e => ha ((Cg.mod p a).symm.trans (Cg.of_eq e))
  have hx' : ¬ Cg p (a % p) 0 := fun e => ha ((Cg.mod p a).symm.trans e)
  have h3 := tmod_lo (x := e) (p := p - 1) (by omega)
  have h4 := tmod_hi (x := e) (p := p - 1) (by omega)
  have c := tmod_cg e (p - 1)
  by_cases hn : e < 0
  · have h5 : Int.tmod e (p - 1) ≤ 0 := by
      have := Int.tmod_nonneg (a := -e) (p - 1) (by omega)
      rw [Int.neg_tmod] at this
      omega
    obtain ⟨K, hK⟩ := power_ok h.isF q.1 q.2 (e := Int.tmod e (p - 1) + p - 1) (by omega) (by omega)
    refine ⟨K + 1, fun k hk => ?_⟩
    obtain ⟨k, rfl⟩ : ∃ m, k = m + 1 := ⟨k - 1, by omega⟩
    unfold impl_Power.f
    simp (disch := omega) only [fieldOf_ok h, reduce_ok h.isF, impl_Power.j0, hK, w64, tmod_pos, tdiv_pos, ↓if_pos, ↓if_neg, if_pos, if_neg, if_true, if_false, Option.bind_some, Bool.false_eq_true, Bool.not_true, Bool.not_false, ↓reduceIte]
    congr 1
    refine (h.isF.pow_cong hx' ?_).emod_eq
    rw [Int.toNat_of_nonneg (by omega), Int.toNat_of_nonneg q1.1, Int.emod_emod_of_dvd _ (Int.dvd_refl _)]
    exact (Cg.trans ⟨1, by omega⟩ c).emod_eq
  · obtain ⟨K, hK⟩ := power_ok h.isF q.1 q.2 (e := e) (by omega) (by omega)
    refine ⟨K + 1, fun k hk => ?_⟩
    obtain ⟨k, rfl⟩ : ∃ m, k = m + 1 := ⟨k - 1, by omega⟩
    unfold impl_Power.f
    simp (disch := omega) only [fieldOf_ok h, reduce_ok h.isF, impl_Power.j0, hK, w64, tmod_pos, tdiv_pos, ↓if_pos, ↓if_neg, if_pos, if_neg, if_true, if_false, Option.bind_some, Bool.false_eq_true, Bool.not_true, Bool.not_false, ↓reduceIte]
    congr 1
    refine (h.isF.pow_cong hx' ?_).emod_eq
    rw [Int.toNat_of_nonneg (by omega), Int.toNat_of_nonneg q1.1, Int.emod_emod_of_dvd _ (Int.dvd_refl _)]
theorem iPower_zero (h : FI f p g t) {a : Int} (ha : Cg p a 0) {e : Int} (h0 : -9223372036854775808 ≤ e) (h1 : e ≤ 9223372036854775807) :
    Ev (fun k => impl_Power.f k f a e) (if e = 0 then 1 else if e < 0 then -1 else 0) := by
  have r := h.isF.rng
  have hx : a % p = 0 := ha.emod_of (by omega) (by omega)
  by_cases hn : e < 0
  · have hd : decide (e < 0) = true := decide_eq_true hn
    refine ⟨1, fun k hk => ?_⟩
    obtain ⟨k, rfl⟩ : ∃ m, k = m + 1 := ⟨k - 1, by omega⟩
    unfold impl_Power.f
    simp (disch := omega) only [fieldOf_ok h, reduce_ok h.isF, hx, impl_Power.j0, hd, w64, tmod_pos, tdiv_pos, ↓if_pos, ↓if_neg, if_pos, if_neg, if_true, if_false, Option.bind_some, Bool.false_eq_true, Bool.not_true, Bool.not_false, ↓reduceIte]
  · have hd : decide (e < 0) = false := decide_eq_false hn
    obtain ⟨K, hK⟩ := power_ok h.isF (a := 0) (e := e) (by omega) (by omega) (by omega) (by omega)
    refine ⟨K + 1, fun k hk => ?_⟩
    obtain ⟨k, rfl⟩ : ∃ m, k = m + 1 := ⟨k - 1, by omega⟩
    unfold impl_Power.f
    simp (disch := omega) only [fieldOf_ok h, reduce_ok h.isF, hx, impl_Power.j0, hd, hK, w64, tmod_pos, tdiv_pos, ↓if_pos, ↓if_neg, if_pos, if_neg, if_true, if_false, Option.bind_some, Bool.false_eq_true, Bool.not_true, Bool.not_false, ↓reduceIte]
    by_cases e0 : e = 0
    · subst e0
      rw [if_pos rfl]
      simp
      exact Int.emod_eq_of_lt (by omega) (by omega)
    · rw [if_neg e0]
      obtain ⟨n, hn⟩ : ∃ n, e.toNat = n + 1 := ⟨e.toNat - 1, by omega⟩
      rw [hn, Int.pow_succ]
      simp
theorem iPower_no (h : f < 0 ∨ 9 ≤ f) (a e : Int) : Ev (fun k => impl_Power.f k f a e) (-1) := by
  refine ⟨0, fun k hk => ?_⟩
  unfold impl_Power.f
  simp (disch := omega) only [fieldOf_no h, w64, tmod_pos, tdiv_pos, ↓if_pos, ↓if_neg, if_pos, if_neg, if_true, if_false, Option.bind_some, Bool.false_eq_true, Bool.not_true, Bool.not_false, ↓reduceIte]
end
/-- Two that come to the same answer. -/
theorem same_ends {α : Type} [DecidableEq α] {g f : Nat → Option α} {r : α} (h : Ev g r) (h' : Ev f r) : ∃ k, ((g k).bind fun a => (f k).bind fun b => if b = a then some true else some false) = some true := by
  obtain ⟨K, h⟩ := h
  obtain ⟨K', h'⟩ := h'
  refine ⟨K + K', ?_⟩
  simp only [h (K + K') (by omega), h' (K + K') (by omega), Option.bind_some, if_true]
theorem Ev.const {α : Type} {x : Option α} {r : α} (h : x = some r) : Ev (fun _ => x) r := ⟨0, fun _ _ => h⟩

end Go.Proofs.Ytginidfoikheaaa.M
