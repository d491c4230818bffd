import Derived.Test.YtohneiapknlpgaaG0
/- What SquareRoot computes, of the program and of the reference: the smaller square root. -/
import Derived.Test.YtohneiapknlpgaaZFnSquaresMa
import Derived.Test.YtohneiapknlpgaaZFnSquaresMb
import Derived.Test.YtohneiapknlpgaaZFnSquaresMc
import Derived.Test.YtohneiapknlpgaaZFnSquaresMd
import Derived.Test.YtohneiapknlpgaaZFnSquaresMe
import Derived.Test.YtohneiapknlpgaaZFnSquaresMh
import Derived.Test.YtohneiapknlpgaaZFnSquaresMi
import Derived.Test.YtohneiapknlpgaaZFnSquaresMj
import Derived.Test.YtohneiapknlpgaaZFnSquaresMo
import Derived.Test.YtohneiapknlpgaaZFnSquaresMp
import Derived.Test.YtohneiapknlpgaaWWords
import Derived.Test.YtohneiapknlpgaaWMore
import Derived.Test.YtohneiapknlpgaaZFnSquares2
import Derived.Test.YtohneiapknlpgaaZFnSquares1
namespace Go.Proofs.Ytohneiapknlpgaa.M
open Go.RowKit Go.Proofs.Ytohneiapknlpgaa.P Go.Proofs.YtohneiapknlpgaaW.PrintWords Go.Proofs.YtohneiapknlpgaaW.PrintLast Go.Proofs.YtohneiapknlpgaaW.PrintMore
set_option linter.unusedVariables false
set_option linter.unusedSimpArgs false

section
variable {f p g t : Int}
/-- r is the smaller square root of a. -/
def SqR (p a r : Int) : Prop := 0 ≤ r ∧ 2 * r ≤ p ∧ Cg p (r * r) a
theorem IsF.p_odd (h : IsF p g t) : p % 2 = 1 := by
  rcases h with ⟨rfl, _⟩ | ⟨rfl, _⟩ | ⟨rfl, _⟩ | ⟨rfl, _⟩ | ⟨rfl, _⟩ | ⟨rfl, _⟩ | ⟨rfl, _⟩ | ⟨rfl, _⟩ | ⟨rfl, _⟩ <;> decide
theorem SqR.uniq (h : IsF p g t) {a r s : Int} (hr : SqR p a r) (hs : SqR p a s) : r = s := by
  have rr := h.rng
  obtain ⟨r0, r1, r2⟩ := hr
  obtain ⟨s0, s1, s2⟩ := hs
  have ho := h.p_odd
  by_cases h1 : Cg p (r - s) 0
  · have h2 : Cg p r s := (Cg.of_eq (by omega)).trans ((h1.add (Cg.refl p s)).trans (Cg.of_eq (by omega)))
    exact h2.eq r0 (by omega) s0 (by omega)
  · have h3 : Cg p ((r - s) * (r + s)) 0 := (Cg.of_eq (by grind)).trans (((r2.trans s2.symm).sub (Cg.refl p (s * s))).trans (Cg.of_eq (by omega)))
    have h4 := h.integral h3 h1
    have h5 := h4.eq (by omega) (by omega) (by omega) (by omega)
    omega
theorem SqR.of (h : IsF p g t) {a r : Int} (r0 : 0 ≤ r) (r1 : r < p) (hr : Cg p (r * r) a) (hz : ¬ Cg p a 0) : SqR p a (mn r (p - r)) := by
  have rr := h.rng
  have hr0 : r ≠ 0 := by
    rintro rfl
    exact hz (hr.symm.trans (Cg.of_eq (by simp)))
  unfold mn
  split
  · refine ⟨by omega, by omega, Cg.trans ?_ hr⟩
    refine ⟨p - 2 * r, by grind⟩
  · exact ⟨r0, by omega, hr⟩
/-- Euler's test. -/
theorem euler_half (h : IsF p g t) : (p.toNat - 1) / 2 + (p.toNat - 1) / 2 = p.toNat - 1 := by
  have r := h.rng
  have ho := h.p_odd
  omega
theorem euler_pow (h : IsF p g t) {q : Nat} (hq : (p.toNat - 1) = q * 2 ^ t.toNat) : (p.toNat - 1) / 2 = q * 2 ^ (t.toNat - 1) := by
  have r := h.rng
  obtain ⟨T, hT⟩ : ∃ T, t.toNat = T + 1 := ⟨t.toNat - 1, by omega⟩
  rw [hq, hT, Nat.pow_succ, Nat.add_sub_cancel, ← Nat.mul_assoc, Nat.mul_div_cancel _ (by decide)]
/-- Squarings. -/
theorem sqrt_l2 (h : IsF p g t) {root rest I : Int} (ro : 0 ≤ root ∧ root < p) (re : 0 ≤ rest ∧ rest < p) {n : Nat} (hn : n ≤ 100) {x : Int} (d : Nat) : ∀ (j : Nat) (b : Int), n - j = d → j ≤ n → 0 ≤ b → b < p →
    Ev (fun k => impl_field_squareRoot.l0 k ((b ^ 2 ^ d % p) * (b ^ 2 ^ d % p) % p) (root * (b ^ 2 ^ d % p) % p) (rest * ((b ^ 2 ^ d % p) * (b ^ 2 ^ d % p) % p) % p) I p g t) x →
    Ev (fun k => impl_field_squareRoot.l2 k root rest I b n j p g t) x := by
  have r := h.rng
  induction d with
  | zero =>
    intro j b hd hj hb hb' hE
    obtain ⟨K, hK⟩ := hE
    have eb : b ^ 2 ^ 0 % p = b := by rw [Nat.pow_zero, Int.pow_one, Int.emod_eq_of_lt hb hb']
    rw [eb] at hK
    have q := emod_rng (p := p) (by omega) (b * b)
    obtain rfl : j = n := by omega
    refine ⟨K + 1, fun k hk => ?_⟩
    obtain ⟨k, rfl⟩ : ∃ m, k = m + 1 := ⟨k - 1, by omega⟩
    simp (disch := omega) only [impl_field_squareRoot.l2, mul_ok h hb hb' hb hb', mul_ok h re.1 re.2 q.1 q.2, mul_ok h ro.1 ro.2 hb hb', w64, tmod_pos, tdiv_pos, ↓if_pos, ↓if_neg, if_pos, if_neg, if_true, if_false, Option.bind_some, Bool.false_eq_true, Bool.not_true, Bool.not_false, ↓reduceIte]
    exact hK k (by omega)
  | succ d ih =>
    intro j b hd hj hb hb' hE
    have q := emod_rng (p := p) (by omega) (b * b)
    have eb : (b * b % p) ^ 2 ^ d % p = b ^ 2 ^ (d + 1) % p := by
      refine (((Cg.mod p (b * b)).pow _).trans (Cg.of_eq ?_)).emod_eq
      rw [Nat.pow_succ, Nat.mul_comm, Int.pow_mul]
      congr 1
      rw [Int.pow_succ, Int.pow_succ]
      simp
    obtain ⟨K, hK⟩ := ih (j + 1) (b * b % p) (by omega) (by omega) q.1 q.2 (by rw [eb]; exact hE)
    refine ⟨K + 1, fun k hk => ?_⟩
    obtain ⟨k, rfl⟩ : ∃ m, k = m + 1 := ⟨k - 1, by omega⟩
    simp (disch := omega) only [impl_field_squareRoot.l2, mul_ok h hb hb' hb hb', w64, tmod_pos, tdiv_pos, ↓if_pos, ↓if_neg, if_pos, if_neg, if_true, if_false, Option.bind_some, Bool.false_eq_true, Bool.not_true, Bool.not_false, ↓reduceIte]
    exact hK k (by omega)
/-- The first square of 'rest' that is 1. -/
theorem sqrt_l1 (h : IsF p g t) {z root rest : Int} (re : 0 ≤ rest ∧ rest < p) {M : Nat} (hM : M ≤ 100) (hone : Cg p (rest ^ 2 ^ M) 1) (d : Nat) : ∀ (i : Nat), M - i = d → i ≤ M → (∀ j, j < i → ¬ Cg p (rest ^ 2 ^ j) 1) →
    ∃ I : Nat, i ≤ I ∧ I ≤ M ∧ Cg p (rest ^ 2 ^ I) 1 ∧ (∀ j, j < I → ¬ Cg p (rest ^ 2 ^ j) 1) ∧ ∀ x : Int, Ev (fun k => impl_field_squareRoot.l2 k root rest I z ((M : Int) - I) 0 p g t) x →
      Ev (fun k => impl_field_squareRoot.l1 k z root rest ((M + 1 : Nat) : Int) i (rest ^ 2 ^ i % p) p g t) x := by
  have r := h.rng
  induction d with
  | zero =>
    intro i hd hi hj
    obtain rfl : i = M := by omega
    refine ⟨i, Nat.le_refl _, Nat.le_refl _, hone, hj, fun x hE => ?_⟩
    obtain ⟨K, hK⟩ := hE
    have e1 := (pow_one_iff h rest (2 ^ i)).mpr hone
    refine ⟨K + 1, fun k hk => ?_⟩
    obtain ⟨k, rfl⟩ : ∃ m, k = m + 1 := ⟨k - 1, by omega⟩
    have e2 : (((i + 1 : Nat) : Int) - (i : Int) - 1) = (i : Int) - i := by omega
    simp (disch := omega) only [impl_field_squareRoot.l1, e1, e2, w64, tmod_pos, tdiv_pos, ↓if_pos, ↓if_neg, if_pos, if_neg, if_true, if_false, Option.bind_some, Bool.false_eq_true, Bool.not_true, Bool.not_false, ↓reduceIte]
    exact hK k (by omega)
  | succ d ih =>
    intro i hd hi hj
    by_cases h1 : Cg p (rest ^ 2 ^ i) 1
    · refine ⟨i, Nat.le_refl _, hi, h1, hj, fun x hE => ?_⟩
      obtain ⟨K, hK⟩ := hE
      have e1 := (pow_one_iff h rest (2 ^ i)).mpr h1
      refine ⟨K + 1, fun k hk => ?_⟩
      obtain ⟨k, rfl⟩ : ∃ m, k = m + 1 := ⟨k - 1, by omega⟩
      have e2 : (((M + 1 : Nat) : Int) - (i : Int) - 1) = (M : Int) - i := by omega
      simp (disch := omega) only [impl_field_squareRoot.l1, e1, e2, w64, tmod_pos, tdiv_pos, ↓if_pos, ↓if_neg, if_pos, if_neg, if_true, if_false, Option.bind_some, Bool.false_eq_true, Bool.not_true, Bool.not_false, ↓reduceIte]
      exact hK k (by omega)
    · obtain ⟨I, h2, h3, h4, h5, h6⟩ := ih (i + 1) (by omega) (by omega) (fun j hj2 => by
        by_cases e : j = i
        · subst e; exact h1
        · exact hj j (by omega))
      refine ⟨I, by omega, h3, h4, h5, fun x hE => ?_⟩
      obtain ⟨K, hK⟩ := h6 x hE
      have q := emod_rng (p := p) (by omega) (rest ^ 2 ^ i)
      have e1 : ¬ rest ^ 2 ^ i % p = 1 := fun hc => h1 ((pow_one_iff h rest (2 ^ i)).mp hc)
      have e3 : rest ^ 2 ^ i % p * (rest ^ 2 ^ i % p) % p = rest ^ 2 ^ (i + 1) % p := by
        refine (((Cg.mod p _).mul (Cg.mod p _)).trans (Cg.of_eq ?_)).emod_eq
        rw [← Int.pow_add, Nat.pow_succ]
        congr 1
        omega
      refine ⟨K + 1, fun k hk => ?_⟩
      obtain ⟨k, rfl⟩ : ∃ m, k = m + 1 := ⟨k - 1, by omega⟩
      simp (disch := omega) only [impl_field_squareRoot.l1, e1, mul_ok h q.1 q.2 q.1 q.2, e3, w64, tmod_pos, tdiv_pos, ↓if_pos, ↓if_neg, if_pos, if_neg, if_true, if_false, Option.bind_some, Bool.false_eq_true, Bool.not_true, Bool.not_false, ↓reduceIte]
      exact hK k (by omega)
theorem pow_pow_two (a : Int) (i j : Nat) : (a ^ 2 ^ i) ^ 2 ^ j = a ^ 2 ^ (i + j) := by rw [← Int.pow_mul, ← Nat.pow_add]
theorem sqrt_l0 (h : IsF p g t) {a : Int} (hz : ¬ Cg p a 0) (n : Nat) : ∀ (M : Nat) (z root rest : Int), M ≤ n → M ≤ 100 → (0 ≤ z ∧ z < p) → (0 ≤ root ∧ root < p) → (0 ≤ rest ∧ rest < p) →
    Cg p (root * root) (a * rest) → Cg p (z ^ 2 ^ M) (-1) → Cg p (rest ^ 2 ^ M) 1 →
    ∃ x, SqR p a x ∧ Ev (fun k => impl_field_squareRoot.l0 k z root rest ((M + 1 : Nat) : Int) p g t) x := by
  have r := h.rng
  have fin : ∀ (M : Nat) (z root rest : Int), (0 ≤ root ∧ root < p) → Cg p (root * root) (a * rest) → rest = 1 → ∃ x, SqR p a x ∧ Ev (fun k => impl_field_squareRoot.l0 k z root rest ((M + 1 : Nat) : Int) p g t) x := by
    intro M z root rest ro hroot h1
    subst h1
    refine ⟨_, SqR.of h ro.1 ro.2 (hroot.trans (Cg.of_eq (by omega))) hz, 1, fun k hk => ?_⟩
    obtain ⟨k, rfl⟩ : ∃ m, k = m + 1 := ⟨k - 1, by omega⟩
    simp (disch := omega) only [impl_field_squareRoot.l0, w64, tmod_pos, tdiv_pos, ↓if_pos, ↓if_neg, if_pos, if_neg, if_true, if_false, Option.bind_some, Bool.false_eq_true, Bool.not_true, Bool.not_false, ↓reduceIte]
  induction n with
  | zero =>
    intro M z root rest hM hM1 zo ro re hroot hzM hrM
    obtain rfl : M = 0 := by omega
    rw [Nat.pow_zero, Int.pow_one] at hrM
    exact fin 0 z root rest ro hroot (hrM.eq re.1 re.2 (by omega) (by omega))
  | succ n ih =>
    intro M z root rest hM hM1 zo ro re hroot hzM hrM
    by_cases h1 : rest = 1
    · exact fin M z root rest ro hroot h1
    have hne : ¬ Cg p (rest ^ 2 ^ 0) 1 := fun hc => by
      rw [Nat.pow_zero, Int.pow_one] at hc
      exact h1 (hc.eq re.1 re.2 (by omega) (by omega))
    obtain ⟨I, hI0, hIM, hI1, hImin, hIE⟩ := sqrt_l1 h (z := z) (root := root) re hM1 hrM M 0 (by omega) (by omega) (fun j hj => by omega)
    have hIpos : I ≠ 0 := by rintro rfl; exact hne hI1
    obtain ⟨J, rfl⟩ : ∃ J, I = J + 1 := ⟨I - 1, by omega⟩
    -- what b is
    have hb := emod_rng (p := p) (by omega) (z ^ 2 ^ (M - (J + 1)))
    obtain ⟨b, eb⟩ : ∃ b, b = z ^ 2 ^ (M - (J + 1)) % p := ⟨_, rfl⟩
    rw [← eb] at hb
    have cb : Cg p b (z ^ 2 ^ (M - (J + 1))) := eb ▸ Cg.mod p _
    have hbb := emod_rng (p := p) (by omega) (b * b)
    have cbb : Cg p (b * b % p) (b * b) := Cg.mod p _
    have sqb : ∀ m : Nat, Cg p ((b * b % p) ^ 2 ^ m) (b ^ 2 ^ (m + 1)) := fun m => by
      refine (cbb.pow _).trans (Cg.of_eq ?_)
      rw [Nat.pow_succ, Nat.mul_comm (2 ^ m) 2, Int.pow_mul]
      congr 1
      rw [Int.pow_succ, Int.pow_succ]
      simp
    have hb1 : Cg p (b ^ 2 ^ (J + 1)) (-1) := by
      refine (cb.pow _).trans ((Cg.of_eq ?_).trans hzM)
      rw [pow_pow_two]
      congr 2
      omega
    have hrJ : Cg p (rest ^ 2 ^ J) (-1) := by
      have e : rest ^ 2 ^ (J + 1) = rest ^ 2 ^ J * rest ^ 2 ^ J := by rw [← Int.pow_add, Nat.pow_succ]; congr 1; omega
      rcases sq_one h ((Cg.of_eq e.symm).trans hI1) with h3 | h3
      · exact absurd h3 (hImin J (by omega))
      · exact h3
    have mulpow : ∀ (x y : Int) (m : Nat), (x * y) ^ m = x ^ m * y ^ m := fun x y m => by
      induction m with
      | zero => simp
      | succ m ihm => rw [Int.pow_succ, Int.pow_succ, Int.pow_succ, ihm]; grind
    obtain ⟨x, hx, hE⟩ := ih J (b * b % p) (root * b % p) (rest * (b * b % p) % p) (by omega) (by omega) hbb (emod_rng (by omega) _) (emod_rng (by omega) _)
      ((((Cg.mod p _).mul (Cg.mod p _)).trans (Cg.trans (Cg.of_eq (by grind)) (hroot.mul (Cg.refl p (b * b))))).trans (Cg.trans (Cg.of_eq (by grind)) ((Cg.refl p a).mul (((Cg.mod p _).trans ((Cg.refl p rest).mul cbb)).symm))))
      ((sqb J).trans hb1)
      ((((Cg.mod p _).pow _).trans (Cg.of_eq (mulpow _ _ _))).trans ((hrJ.mul ((sqb J).trans hb1)).trans (Cg.of_eq (by decide))))
    refine ⟨x, hx, ?_⟩
    have e0 : ((M : Int) - ((J + 1 : Nat) : Int)) = ((M - (J + 1) : Nat) : Int) := by omega
    obtain ⟨K, hK⟩ := hIE x (by
      rw [e0]
      have h9 := sqrt_l2 h (I := ((J + 1 : Nat) : Int)) ro re (n := M - (J + 1)) (by omega) (x := x) (M - (J + 1)) 0 z (by omega) (by omega) zo.1 zo.2 (by rw [← eb]; exact hE)
      exact h9)
    rw [Nat.pow_zero, Int.pow_one, Int.emod_eq_of_lt re.1 re.2] at hK
    refine ⟨K + 1, fun k hk => ?_⟩
    obtain ⟨k, rfl⟩ : ∃ m, k = m + 1 := ⟨k - 1, by omega⟩
    simp (disch := omega) only [impl_field_squareRoot.l0, w64, tmod_pos, tdiv_pos, ↓if_pos, ↓if_neg, if_pos, if_neg, if_true, if_false, Option.bind_some, Bool.false_eq_true, Bool.not_true, Bool.not_false, ↓reduceIte]
    exact hK k (by omega)
/-- What the program's square root answers. -/
theorem sqrt_ok (h : IsF p g t) {a : Int} (ha : 0 ≤ a) (ha' : a < p) (hz : ¬ Cg p a 0) (he : Cg p (a ^ ((p.toNat - 1) / 2)) 1) : ∃ x, SqR p a x ∧ Ev (fun k => impl_field_squareRoot.f k p g t a) x := by
  have r := h.rng
  obtain ⟨q, hodd, hq, hg⟩ := h.odd
  have hq0 : 0 < q := by omega
  have s := shr_p h (show 0 ≤ t by omega) (by omega)
  have es : (shr .i64 (p - 1) t).toNat = q := by rw [s.1, hq, Nat.mul_div_cancel _ (Nat.two_pow_pos _)]
  have hp2 : ((p - 1) / 2).toNat = (p.toNat - 1) / 2 := by omega
  have ep := euler_pow h hq
  obtain ⟨K1, h1⟩ := power_ok h ha ha' (e := (p - 1) / 2) (by omega) (by omega)
  rw [hp2, (pow_one_iff h a _).mpr he] at h1
  obtain ⟨K2, h2⟩ := power_ok h (a := g) (e := shr .i64 (p - 1) t) (by omega) (by omega) s.2.1 (by omega)
  rw [es] at h2
  have esq : shr .i64 (p - 1) t = (q : Int) := by omega
  have hlt : (q : Int) ≤ p - 1 := by omega
  have e3 : (((q : Int) + 1) / 2).toNat = (q + 1) / 2 := by omega
  obtain ⟨K3, h3⟩ := power_ok h ha ha' (e := ((q : Int) + 1) / 2) (by omega) (by omega)
  rw [e3] at h3
  obtain ⟨K4, h4⟩ := power_ok h ha ha' (e := (q : Int)) (by omega) (by omega)
  rw [Int.toNat_natCast] at h4
  rw [esq] at h2
  obtain ⟨T, hT⟩ : ∃ T, t.toNat = T + 1 := ⟨t.toNat - 1, by omega⟩
  rw [hT, Nat.add_sub_cancel] at ep hg
  have hroot : Cg p (a ^ ((q + 1) / 2) % p * (a ^ ((q + 1) / 2) % p)) (a * (a ^ q % p)) := by
    refine ((Cg.mod p _).mul (Cg.mod p _)).trans (Cg.trans (Cg.of_eq ?_) ((Cg.refl p a).mul (Cg.mod p _).symm))
    rw [← Int.pow_add, Int.mul_comm, ← Int.pow_succ]
    congr 1
    omega
  obtain ⟨x, hx, K5, h5⟩ := sqrt_l0 h hz T T (g ^ q % p) (a ^ ((q + 1) / 2) % p) (a ^ q % p) (Nat.le_refl _) (by omega) (emod_rng (by omega) _) (emod_rng (by omega) _) (emod_rng (by omega) _) hroot
    (((Cg.mod p _).pow _).trans ((Cg.of_eq (by rw [← Int.pow_mul])).trans hg))
    (((Cg.mod p _).pow _).trans ((Cg.of_eq (by rw [← Int.pow_mul, ep])).trans he))
  have et : ((T + 1 : Nat) : Int) = t := by omega
  rw [et] at h5
  have ha0 : a ≠ 0 := fun hc => hz (Cg.of_eq hc)
  refine ⟨x, hx, K1 + K2 + K3 + K4 + K5, fun k hk => ?_⟩
  unfold impl_field_squareRoot.f
  simp (disch := omega) only [h1, h2, h3, h4, esq, w64, tmod_pos, tdiv_pos, ↓if_pos, ↓if_neg, if_pos, if_neg, if_true, if_false, Option.bind_some, Bool.false_eq_true, Bool.not_true, Bool.not_false, ↓reduceIte]
  exact h5 k (by omega)
theorem sqrt_none (h : IsF p g t) {a : Int} (ha : 0 ≤ a) (ha' : a < p) (hz : ¬ Cg p a 0) (he : ¬ Cg p (a ^ ((p.toNat - 1) / 2)) 1) : Ev (fun k => impl_field_squareRoot.f k p g t a) (-1) := by
  have r := h.rng
  have hp2 : ((p - 1) / 2).toNat = (p.toNat - 1) / 2 := by omega
  obtain ⟨K1, h1⟩ := power_ok h ha ha' (e := (p - 1) / 2) (by omega) (by omega)
  rw [hp2] at h1
  have e1 : ¬ a ^ ((p.toNat - 1) / 2) % p = 1 := fun hc => he ((pow_one_iff h a _).mp hc)
  have ha0 : a ≠ 0 := fun hc => hz (Cg.of_eq hc)
  refine ⟨K1, fun k hk => ?_⟩
  unfold impl_field_squareRoot.f
  simp (disch := omega) only [h1, e1, w64, tmod_pos, tdiv_pos, ↓if_pos, ↓if_neg, if_pos, if_neg, if_true, if_false, Option.bind_some, Bool.false_eq_true, Bool.not_true, Bool.not_false, ↓reduceIte]
theorem iSqrt_zero (h : FI f p g t) {a : Int} (hz : Cg p a 0) : Ev (fun k => impl_SquareRoot.f k f a) 0 := by
  have r := h.isF.rng
  have e0 := hz.emod_of (by omega) (by omega)
  refine ⟨0, fun k hk => ?_⟩
  unfold impl_SquareRoot.f impl_field_squareRoot.f
  simp (disch := omega) only [fieldOf_ok h, reduce_ok h.isF, e0, w64, tmod_pos, tdiv_pos, ↓if_pos, ↓if_neg, if_pos, if_neg, if_true, if_false, Option.bind_some, Bool.false_eq_true, Bool.not_true, Bool.not_false, ↓reduceIte]
theorem iSqrt_ok (h : FI f p g t) {a : Int} (hz : ¬ Cg p a 0) (he : Cg p ((a % p) ^ ((p.toNat - 1) / 2)) 1) : ∃ x, SqR p (a % p) x ∧ Ev (fun k => impl_SquareRoot.f k f a) x := by
  have r := h.isF.rng
  have q := emod_rng (p := p) (by omega) a
  obtain ⟨x, hx, K, hK⟩ := sqrt_ok h.isF q.1 q.2 (fun hc => hz ((Cg.mod p a).symm.trans hc)) he
  refine ⟨x, hx, K, fun k hk => ?_⟩
  unfold impl_SquareRoot.f
  simp (disch := omega) only [fieldOf_ok h, reduce_ok h.isF, hK, w64, tmod_pos, tdiv_pos, ↓if_pos, ↓if_neg, if_pos, if_neg, if_true, if_false, Option.bind_some, Bool.false_eq_true, Bool.not_true, Bool.not_false, ↓reduceIte]
theorem iSqrt_none (h : FI f p g t) {a : Int} (hz : ¬ Cg p a 0) (he : ¬ Cg p ((a % p) ^ ((p.toNat - 1) / 2)) 1) : Ev (fun k => impl_SquareRoot.f k f a) (-1) := by
  have r := h.isF.rng
  have q := emod_rng (p := p) (by omega) a
  obtain ⟨K, hK⟩ := sqrt_none h.isF q.1 q.2 (fun hc => hz ((Cg.mod p a).symm.trans hc)) he
  refine ⟨K, fun k hk => ?_⟩
  unfold impl_SquareRoot.f
  simp (disch := omega) only [fieldOf_ok h, reduce_ok h.isF, hK, w64, tmod_pos, tdiv_pos, ↓if_pos, ↓if_neg, if_pos, if_neg, if_true, if_false, Option.bind_some, Bool.false_eq_true, Bool.not_true, Bool.not_false, ↓reduceIte]
theorem iSqrt_no (h : f < 0 ∨ 9 ≤ f) (a : Int) : Ev (fun k => impl_SquareRoot.f k f a) (-1) := by
  refine ⟨0, fun k hk => ?_⟩
  unfold impl_SquareRoot.f
  simp (disch := omega) only [fieldOf_no h, w64, tmod_pos, tdiv_pos, ↓if_pos, ↓if_neg, if_pos, if_neg, if_true, if_false, Option.bind_some, Bool.false_eq_true, Bool.not_true, Bool.not_false, ↓reduceIte]
theorem mul_pow_int (x y : Int) (m : Nat) : (x * y) ^ m = x ^ m * y ^ m := by
  induction m with
  | zero => simp
  | succ m ihm => rw [Int.pow_succ, Int.pow_succ, Int.pow_succ, ihm]; grind
end

end Go.Proofs.Ytohneiapknlpgaa.M
