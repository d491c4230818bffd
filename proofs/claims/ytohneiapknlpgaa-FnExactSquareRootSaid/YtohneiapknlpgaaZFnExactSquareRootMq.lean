import Derived.Test.YtohneiapknlpgaaG0
/- What SquareRoot computes, of the program and of the reference: the smaller square root. -/
import Derived.Test.YtohneiapknlpgaaZFnExactSquareRootMa
import Derived.Test.YtohneiapknlpgaaZFnExactSquareRootMb
import Derived.Test.YtohneiapknlpgaaZFnExactSquareRootMc
import Derived.Test.YtohneiapknlpgaaZFnExactSquareRootMd
import Derived.Test.YtohneiapknlpgaaZFnExactSquareRootMe
import Derived.Test.YtohneiapknlpgaaZFnExactSquareRootMh
import Derived.Test.YtohneiapknlpgaaZFnExactSquareRootMi
import Derived.Test.YtohneiapknlpgaaZFnExactSquareRootMj
import Derived.Test.YtohneiapknlpgaaZFnExactSquareRootMo
import Derived.Test.YtohneiapknlpgaaZFnExactSquareRootMp
import Derived.Test.YtohneiapknlpgaaWWords
import Derived.Test.YtohneiapknlpgaaWMore
import Derived.Test.YtohneiapknlpgaaZFnExactSquareRoot2
import Derived.Test.YtohneiapknlpgaaZFnExactSquareRoot1
import Derived.Test.YtohneiapknlpgaaZFnExactSquareRoot0
namespace Go.Proofs.Ytohneiapknlpgaa.M
open Go.RowKit Go.Proofs.Ytohneiapknlpgaa.P Go.Proofs.YtohneiapknlpgaaW.PrintWords Go.Proofs.YtohneiapknlpgaaW.PrintLast Go.Proofs.YtohneiapknlpgaaW.PrintMore
set_option linter.unusedVariables false
set_option linter.unusedSimpArgs false

section
variable {f p g t : Int}
/-- r is the smaller square root of a. -/
def SqR (p a r : Int) : Prop := 0 ≤ r ∧ 2 * r ≤ p ∧ Cg p (r * r) a
theorem IsF.p_odd (h : IsF p g t) : p % 2 = 1 := by
  rcases h with ⟨rfl, _⟩ | ⟨rfl, _⟩ | ⟨rfl, _⟩ | ⟨rfl, _⟩ | ⟨rfl, _⟩ | ⟨rfl, _⟩ | ⟨rfl, _⟩ | ⟨rfl, _⟩ | ⟨rfl, _⟩ <;> decide
theorem SqR.uniq (h : IsF p g t) {a r s : Int} (hr : SqR p a r) (hs : SqR p a s) : r = s := by
  have rr := h.rng
  obtain ⟨r0, r1, r2⟩ := hr
  obtain ⟨s0, s1, s2⟩ := hs
  have ho := h.p_odd
  by_cases h1 : Cg p (r - s) 0
  · have h2 : Cg p r s := (Cg.of_eq (by omega)).trans ((h1.add (Cg.refl p s)).trans (Cg.of_eq (by omega)))
    exact h2.eq r0 (by omega) s0 (by omega)
  · have h3 : Cg p ((r - s) * (r + s)) 0 := (Cg.of_eq (by grind)).trans (((r2.trans s2.symm).sub (Cg.refl p (s * s))).trans (Cg.of_eq (by omega)))
    have h4 := h.integral h3 h1
    have h5 := h4.eq (by omega) (by omega) (by omega) (by omega)
    omega
theorem SqR.of (h : IsF p g t) {a r : Int} (r0 : 0 ≤ r) (r1 : r < p) (hr : Cg p (r * r) a) (hz : ¬ Cg p a 0) : SqR p a (mn r (p - r)) := by
  have rr := h.rng
  have hr0 : r ≠ 0 := by
    rintro rfl
    exact hz (hr.symm.trans (Cg.of_eq (by simp)))
  unfold mn
  split
  · refine ⟨by omega, by omega, Cg.trans ?_ hr⟩
    refine ⟨p - 2 * r, by grind⟩
  · exact ⟨r0, by omega, hr⟩
/-- Euler's test. -/
theorem euler_half (h : IsF p g t) : (p.toNat - 1) / 2 + (p.toNat - 1) / 2 = p.toNat - 1 := by
  have r := h.rng
  have ho := h.p_odd
  omega
theorem euler_pow (h : IsF p g t) {q : Nat} (hq : (p.toNat - 1) = q * 2 ^ t.toNat) : (p.toNat - 1) / 2 = q * 2 ^ (t.toNat - 1) := by
  have r := h.rng
  obtain ⟨T, hT⟩ : ∃ T, t.toNat = T + 1 := ⟨t.toNat - 1, by omega⟩
  rw [hq, hT, Nat.pow_succ, Nat.add_sub_cancel, ← Nat.mul_assoc, Nat.mul_div_cancel _ (by decide)]
/-- Squarings. -/
theorem sqrt_l2 (h : IsF p g t) {root rest I : Int} (ro : 0 ≤ root ∧ root < p) (re : 0 ≤ rest ∧ rest < p) {n : Nat} (hn : n ≤ 100) {x : Int} (d : Nat) : ∀ (j : Nat) (b : Int), n - j = d → j ≤ n → 0 ≤ b → b < p →
    Ev (fun k => impl_field_squareRoot.l0 k ((b ^ 2 ^ d % p) * (b ^ 2 ^ d % p) % p) (root * (b ^ 2 ^ d % p) % p) (rest * ((b ^ 2 ^ d % p) * (b ^ 2 ^ d % p) % p) % p) I p g t) x →
    Ev (fun k => impl_field_squareRoot.l2 k root rest I b n j p g t) x := by
  have r := h.rng
  induction d with
  | zero =>
    intro j b hd hj hb hb' hE
    obtain ⟨K, hK⟩ := hE
    have eb : b ^ 2 ^ 0 % p = b := by rw [Nat.pow_zero, Int.pow_one, Int.emod_eq_of_lt hb hb']
    rw [eb] at hK
    have q := emod_rng (p := p) (by omega) (b * b)
    obtain rfl : j = n := by omega
    refine ⟨K + 1, fun k hk => ?_⟩
    obtain ⟨k, rfl⟩ : ∃ m, k = m + 1 := ⟨k - 1, by omega⟩
    simp (disch := omega) only [impl_field_squareRoot.l2, mul_ok h hb hb' hb hb', mul_ok h re.1 re.2 q.1 q.2, mul_ok h ro.1 ro.2 hb hb', w64, tmod_pos, tdiv_pos, ↓if_pos, ↓if_neg, if_pos, if_neg, if_true, if_false, Option.bind_some, Bool.false_eq_true, Bool.not_true, Bool.not_false, ↓reduceIte]
    exact hK k (by omega)
  | succ d ih =>
    intro j b hd hj hb hb' hE
    have q := emod_rng (p := p) (by omega) (b * b)
    have eb : (b * b % p) ^ 2 ^ d % p = b ^ 2 ^ (d + 1) % p := by
      refine (((Cg.mod p (b * b)).pow _).trans (Cg.of_eq ?_)).emod_eq
      rw [Nat.pow_succ, Nat.mul_comm, Int.pow_mul]
      congr 1
      rw [Int.pow_succ, Int.pow_succ]
      simp
    obtain ⟨K, hK⟩ := ih (j + 1) (b * b % p) (by omega) (by omega) q.1 q.2 (by rw [eb]; exact hE)
    refine ⟨K + 1, fun k hk => ?_⟩
    obtain ⟨k, rfl⟩ : ∃ m, k = m + 1 := ⟨k - 1, by omega⟩
    simp (disch := omega) only [impl_field_squareRoot.l2, mul_ok h hb hb' hb hb', w64, tmod_pos, tdiv_pos, ↓if_pos, ↓if_neg, if_pos, if_neg, if_true, if_false, Option.bind_some, Bool.false_eq_true, Bool.not_true, Bool.not_false, ↓reduceIte]
    exact hK k (by omega)
/-- The first square of 'rest' that is 1. -/
theorem sqrt_l1 (h : IsF p g t) {z root rest : Int} (re : 0 ≤ rest ∧ rest < p) {M : Nat} (hM : M ≤ 100) (hone : Cg p (rest ^ 2 ^ M) 1) (d : Nat) : ∀ (i : Nat), M - i = d → i ≤ M → (∀ j, j < i → ¬ Cg p (rest ^ 2 ^ j) 1) →
    ∃ I : Nat, i ≤ I ∧ I ≤ M ∧ Cg p (rest ^ 2 ^ I) 1 ∧ (∀ j, j < I → ¬ Cg p (rest ^ 2 ^ j) 1) ∧ ∀ x : Int, Ev (fun k => impl_field_squareRoot.l2 k root rest I z ((M : Int) - I) 0 p g t) x →
      Ev (fun k => impl_field_squareRoot.l1 k z root rest ((M + 1 : Nat) : Int) i (rest ^ 2 ^ i % p) p g t) x := by
  have r := h.rng
  induction d with
  | zero =>
    intro i hd hi hj
    obtain rfl : i = M := by omega
    refine ⟨i, Nat.le_refl _, Nat.le_refl _, hone, hj, fun x hE => ?_⟩
    obtain ⟨K, hK⟩ := hE
    have e1 := (pow_one_iff h rest (2 ^ i)).mpr hone
    refine ⟨K + 1, fun k hk => ?_⟩
    obtain ⟨k, rfl⟩ : ∃ m, k = m + 1 := ⟨k - 1, by omega⟩
    have e2 : (((i + 1 : Nat) : Int) - (i : Int) - 1) = (i : Int) - i := by omega
    simp (disch := omega) only [impl_field_squareRoot.l1, e1, e2, w64, tmod_pos, tdiv_pos, ↓if_pos, ↓if_neg, if_pos, if_neg, if_true, if_false, Option.bind_some, Bool.false_eq_true, Bool.not_true, Bool.not_false, ↓reduceIte]
    exact hK k (by omega)
  | succ d ih =>
    intro i hd hi hj
    by_cases h1 : Cg p (rest ^ 2 ^ i) 1
    · refine ⟨i, Nat.le_refl _, hi, h1, hj, fun x hE => ?_⟩
      obtain ⟨K, hK⟩ := hE
      have e1 := (pow_one_iff h rest (2 ^ i)).mpr h1
      refine ⟨K + 1, fun k hk => ?_⟩
      obtain ⟨k, rfl⟩ : ∃ m, k = m + 1 := ⟨k - 1, by omega⟩
      have e2 : (((M + 1 : Nat) : Int) - (i : Int) - 1) = (M : Int) - i := by omega
      simp (disch := omega) only [impl_field_squareRoot.l1, e1, e2, w64, tmod_pos, tdiv_pos, ↓if_pos, ↓if_neg, if_pos, if_neg, if_true, if_false, Option.bind_some, Bool.false_eq_true, Bool.not_true, Bool.not_false, ↓reduceIte]
      exact hK k (by omega)
    · obtain ⟨I, h2, h3, h4, h5, h6⟩ := ih (i + 1) (by omega) (by omega) (fun j hj2 => by
        by_cases e : j = i
        · subst e; exact h1
        · exact hj j (by omega))
      refine ⟨I, by omega, h3, h4, h5, fun x hE => ?_⟩
      obtain ⟨K, hK⟩ := h6 x hE
      have q := emod_rng (p := p) (by omega) (rest ^ 2 ^ i)
      have e1 : ¬ rest ^ 2 ^ i % p = 1 := fun hc => h1 ((pow_one_iff h rest (2 ^ i)).mp hc)
      have e3 : rest ^ 2 ^ i % p * (rest ^ 2 ^ i % p) % p = rest ^ 2 ^ (i + 1) % p := by
        refine (((Cg.mod p _).mul (Cg.mod p _)).trans (Cg.of_eq ?_)).emod_eq
        rw [← Int.pow_add, Nat.pow_succ]
        congr 1
        omega
      refine ⟨K + 1, fun k hk => ?_⟩
      obtain ⟨k, rfl⟩ : ∃ m, k = m + 1 := ⟨k - 1, by omega⟩
      simp (disch := omega) only [impl_field_squareRoot.l1, e1, mul_ok h q.1 q.2 q.1 q.2, e3, w64, tmod_pos, tdiv_pos, ↓if_pos, ↓if_neg, if_pos, if_neg, if_true, if_false, Option.bind_some, Bool.false_eq_true, Bool.not_true, Bool.not_false, ↓reduceIte]
      exact hK k (by omega)
theorem pow_pow_two (a : Int) (i j : Nat) : (a ^ 2 ^ i) ^ 2 ^ j = a ^ 2 ^ (i + j) := by rw [← Int.pow_mul, ← Nat.pow_add]
theorem sqrt_l0 (h : IsF p g t) {a : Int} (hz : ¬ Cg p a 0) (n : Nat) : ∀ (M : Nat) (z root rest : Int), M ≤ n → M ≤ 100 → (0 ≤ z ∧ z < p) → (0 ≤ root ∧ root < p) → (0 ≤ rest ∧ rest < p) →
    Cg p (root * root) (a * rest) → Cg p (z ^ 2 ^ M) (-1) → Cg p (rest ^ 2 ^ M) 1 →
    ∃ x, SqR p a x ∧ Ev (fun k => impl_field_squareRoot.l0 k z root rest ((M + 1 : Nat) : Int) p g t) x := by
  have r := h.rng
  have fin : ∀ (M : Nat) (z root rest : Int), (0 ≤ root ∧ root < p) → Cg p (root * root) (a * rest) → rest = 1 → ∃ x, SqR p a x ∧ Ev (fun k => impl_field_squareRoot.l0 k z root rest ((M + 1 : Nat) : Int) p g t) x := by
    intro M z root rest ro hroot h1
    subst h1
    refine ⟨_, SqR.of h ro.1 ro.2 (hroot.trans (Cg.of_eq (by omega))) hz, 1, fun k hk => ?_⟩
    obtain ⟨k, rfl⟩ : ∃ m, k = m + 1 := ⟨k - 1, by omega⟩
    simp (disch := omega) only [impl_field_squareRoot.l0, w64, tmod_pos, tdiv_pos, ↓if_pos, ↓if_neg, if_pos, if_neg, if_true, if_false, Option.bind_some, Bool.false_eq_true, Bool.not_true, Bool.not_false, ↓reduceIte]
  induction n with
  | zero =>
    intro M z root rest hM hM1 zo ro re hroot hzM hrM
    obtain rfl : M = 0 := by omega
    rw [Nat.pow_zero, Int.pow_one] at hrM
    exact fin 0 z root rest ro hroot (hrM.eq re.1 re.2 (by omega) (by omega))
  | succ n ih =>
    intro M z root rest hM hM1 zo ro re hroot hzM hrM
    by_cases h1 : rest = 1
    · exact fin M z root rest ro hroot h1
    have hne : ¬ Cg p (rest ^ 2 ^ 0) 1 := fun hc => by
      rw [Nat.pow_zero, Int.pow_one] at hc
      exact h1 (hc.eq re.1 re.2 (by omega) (by omega))
    obtain ⟨I, hI0, hIM, hI1, hImin, hIE⟩ := sqrt_l1 h (z := z) (root := root) re hM1 hrM M 0 (by omega) (by omega) (fun j hj => by omega)
    have hIpos : I ≠ 0 := by rintro rfl; exact hne hI1
    obtain ⟨J, rfl⟩ : ∃ J, I = J + 1 := ⟨I - 1, by omega⟩
    -- what b is
    have hb := emod_rng (p := p) (by omega) (z ^ 2 ^ (M - (J + 1)))
    obtain ⟨b, eb⟩ : ∃ b, b = z ^ 2 ^ (M - (J + 1)) % p := ⟨_, rfl⟩
    rw [← eb] at hb
    have cb : Cg p b (z ^ 2 ^ (M - (J + 1))) := eb ▸ Cg.mod p _
    have hbb := emod_rng (p := p) (by omega) (b * b)
    have cbb : Cg p (b * b % p) (b * b) := Cg.mod p _
    have sqb : ∀ m : Nat, Cg p ((b * b % p) ^ 2 ^ m) (b ^ 2 ^ (m + 1)) := fun m => by
      refine (cbb.pow _).trans (Cg.of_eq ?_)
      rw [Nat.pow_succ, Nat.mul_comm (2 ^ m) 2, Int.pow_mul]
      congr 1
      rw [Int.pow_succ, Int.pow_succ]
      simp
    have hb1 : Cg p (b ^ 2 ^ (J + 1)) (-1) := by
      refine (cb.pow _).trans ((Cg.of_eq ?_).trans hzM)
      rw [pow_pow_two]
      congr 2
      omega
    have hrJ : Cg p (rest ^ 2 ^ J) (-1) := by
      have e : rest ^ 2 ^ (J + 1) = rest ^ 2 ^ J * rest ^ 2 ^ J := by rw [← Int.pow_add, Nat.pow_succ]; congr 1; omega
      rcases sq_one h ((Cg.of_eq e.symm).trans hI1) with h3 | h3
      · exact absurd h3 (hImin J (by omega))
      · exact h3
    have mulpow : ∀ (x y : Int) (m : Nat), (x * y) ^ m = x ^ m * y ^ m := fun x y m => by
      induction m with
      | zero => simp
      | succ m ihm => rw [Int.pow_succ, Int.pow_succ, Int.pow_succ, ihm]; grind
    obtain ⟨x, hx, hE⟩ := ih J (b * b % p) (root * b % p) (rest * (b * b % p) % p) (by omega) (by omega) hbb (emod_rng (by omega) _) (emod_rng (by omega) _)
      ((((Cg.mod p _).mul (Cg.mod p _)).trans (Cg.trans (Cg.of_eq (by grind)) (hroot.mul (Cg.refl p (b * b))))).trans (Cg.trans (Cg.of_eq (by grind)) ((Cg.refl p a).mul (((Cg.mod p _).trans ((Cg.refl p rest).mul cbb)).symm))))
      ((sqb J).trans hb1)
      ((((Cg.mod p _).pow _).trans (Cg.of_eq (mulpow _ _ _))).trans ((hrJ.mul ((sqb J).trans hb1)).trans (Cg.of_eq (by decide))))
    refine ⟨x, hx, ?_⟩
    have e0 : ((M : Int) - ((J + 1 : Nat) : Int)) = ((M - (J + 1) : Nat) : Int) := by omega
    obtain ⟨K, hK⟩ := hIE x (by
      rw [e0]
      have h9 := sqrt_l2 h (I := ((J + 1 : Nat) : Int)) ro re (n := M - (J + 1)) (by omega) (x := x) (M - (J + 1)) 0 z (by omega) (by omega) zo.1 zo.2 (by rw [← eb]; exact hE)
      exact h9)
    rw [Nat.pow_zero, Int.pow_one, Int.emod_eq_of_lt re.1 re.2] at hK
    refine ⟨K + 1, fun k hk => ?_⟩
    obtain ⟨k, rfl⟩ : ∃ m, k = m + 1 := ⟨k - 1, by omega⟩
    simp (disch := omega) only [impl_field_squareRoot.l0, w64, tmod_pos, tdiv_pos, ↓if_pos, ↓if_neg, if_pos, if_neg, if_true, if_false, Option.bind_some, Bool.false_eq_true, Bool.not_true, Bool.not_false, ↓reduceIte]
    exact hK k (by omega)
/-- What the program's square root answers. -/
theorem sqrt_ok (h : IsF p g t) {a : Int} (ha : 0 ≤ a) (ha' : a < p) (hz : ¬ Cg p a 0) (he : Cg p (a ^ ((p.toNat - 1) / 2)) 1) : ∃ x, SqR p a x ∧ Ev (fun k => impl_field_squareRoot.f k p g t a) x := by
  have r := h.rng
  obtain ⟨q, hodd, hq, hg⟩ := h.odd
  have hq0 : 0 < q := by omega
  have s := shr_p h (show 0 ≤ t by omega) (by omega)
  have es : (shr .i64 (p - 1) t).toNat = q := by rw [s.1, hq, Nat.mul_div_cancel _ (Nat.two_pow_pos _)]
  have hp2 : ((p - 1) / 2).toNat = (p.toNat - 1) / 2 := by omega
  have ep := euler_pow h hq
  obtain ⟨K1, h1⟩ := power_ok h ha ha' (e := (p - 1) / 2) (by omega) (by omega)
  rw [hp2, (pow_one_iff h a _).mpr he] at h1
  obtain ⟨K2, h2⟩ := power_ok h (a := g) (e := shr .i64 (p - 1) t) (by omega) (by omega) s.2.1 (by omega)
  rw [es] at h2
  have esq : shr .i64 (p - 1) t = (q : Int) := by omega
  have hlt : (q : Int) ≤ p - 1 := by omega
  have e3 : (((q : Int) + 1) / 2).toNat = (q + 1) / 2 := by omega
  obtain ⟨K3, h3⟩ := power_ok h ha ha' (e := ((q : Int) + 1) / 2) (by omega) (by omega)
  rw [e3] at h3
  obtain ⟨K4, h4⟩ := power_ok h ha ha' (e := (q : Int)) (by omega) (by omega)
  rw [Int.toNat_natCast] at h4
  rw [esq] at h2
  obtain ⟨T, hT⟩ : ∃ T, t.toNat = T + 1 := ⟨t.toNat - 1, by omega⟩
  rw [hT, Nat.add_sub_cancel] at ep hg
  have hroot : Cg p (a ^ ((q + 1) / 2) % p * (a ^ ((q + 1) / 2) % p)) (a * (a ^ q % p)) := by
    refine ((Cg.mod p _).mul (Cg.mod p _)).trans (Cg.trans (Cg.of_eq ?_) ((Cg.refl p a).mul (Cg.mod p _).symm))
    rw [← Int.pow_add, Int.mul_comm, ← Int.pow_succ]
    congr 1
    omega
  obtain ⟨x, hx, K5, h5⟩ := sqrt_l0 h hz T T (g ^ q % p) (a ^ ((q + 1) / 2) % p) (a ^ q % p) (Nat.le_refl _) (by omega) (emod_rng (by omega) _) (emod_rng (by omega) _) (emod_rng (by omega) _) hroot
    (((Cg.mod p _).pow _).trans ((Cg.of_eq (by rw [← Int.pow_mul])).trans hg))
    (((Cg.mod p _).pow _).trans ((Cg.of_eq (by rw [← Int.pow_mul, ep])).trans he))
  have et : ((T + 1 : Nat) : Int) = t := by omega
  rw [et] at h5
  have ha0 : a ≠ 0 := fun hc => hz (Cg.of_eq hc)
  refine ⟨x, hx, K1 + K2 + K3 + K4 + K5, fun k hk => ?_⟩
  unfold impl_field_squareRoot.f
  simp (disch := omega) only [h1, h2, h3, h4, esq, w64, tmod_pos, tdiv_pos, ↓if_pos, ↓if_neg, if_pos, if_neg, if_true, if_false, Option.bind_some, Bool.false_eq_true, Bool.not_true, Bool.not_false, ↓reduceIte]
  exact h5 k (by omega)
theorem sqrt_none (h : IsF p g t) {a : Int} (ha : 0 ≤ a) (ha' : a < p) (hz : ¬ Cg p a 0) (he : ¬ Cg p (a ^ ((p.toNat - 1) / 2)) 1) : Ev (fun k => impl_field_squareRoot.f k p g t a) (-1) := by
  have r := h.rng
  have hp2 : ((p - 1) / 2).toNat = (p.toNat - 1) / 2 := by omega
  obtain ⟨K1, h1⟩ := power_ok h ha ha' (e := (p - 1) / 2) (by omega) (by omega)
  rw [hp2] at h1
  have e1 : ¬ a ^ ((p.toNat - 1) / 2) % p = 1 := fun hc => he ((pow_one_iff h a _).mp hc)
  have ha0 : a ≠ 0 := fun hc => hz (Cg.of_eq hc)
  refine ⟨K1, fun k hk => ?_⟩
  unfold impl_field_squareRoot.f
  simp (disch := omega) only [h1, e1, w64, tmod_pos, tdiv_pos, ↓if_pos, ↓if_neg, if_pos, if_neg, if_true, if_false, Option.bind_some, Bool.false_eq_true, Bool.not_true, Bool.not_false, ↓reduceIte]
theorem iSqrt_zero (h : FI f p g t) {a : Int} (hz : Cg p a 0) : Ev (fun k => impl_SquareRoot.f k f a) 0 := by
  have r := h.isF.rng
  have e0 := hz.emod_of (by omega) (by omega)
  refine ⟨0, fun k hk => ?_⟩
  unfold impl_SquareRoot.f impl_field_squareRoot.f
  simp (disch := omega) only [fieldOf_ok h, reduce_ok h.isF, e0, w64, tmod_pos, tdiv_pos, ↓if_pos, ↓if_neg, if_pos, if_neg, if_true, if_false, Option.bind_some, Bool.false_eq_true, Bool.not_true, Bool.not_false, ↓reduceIte]
theorem iSqrt_ok (h : FI f p g t) {a : Int} (hz : ¬ Cg p a 0) (he : Cg p ((a % p) ^ ((p.toNat - 1) / 2)) 1) : ∃ x, SqR p (a % p) x ∧ Ev (fun k => impl_SquareRoot.f k f a) x := by
  have r := h.isF.rng
  have q := emod_rng (p := p) (by omega) a
  obtain ⟨x, hx, K, hK⟩ := sqrt_ok h.isF q.1 q.2 (fun hc => hz ((Cg.mod p a).symm.trans hc)) he
  refine ⟨x, hx, K, fun k hk => ?_⟩
  unfold impl_SquareRoot.f
  simp (disch := omega) only [fieldOf_ok h, reduce_ok h.isF, hK, w64, tmod_pos, tdiv_pos, ↓if_pos, ↓if_neg, if_pos, if_neg, if_true, if_false, Option.bind_some, Bool.false_eq_true, Bool.not_true, Bool.not_false, ↓reduceIte]
theorem iSqrt_none (h : FI f p g t) {a : Int} (hz : ¬ Cg p a 0) (he : ¬ Cg p ((a % p) ^ ((p.toNat - 1) / 2)) 1) : Ev (fun k => impl_SquareRoot.f k f a) (-1) := by
  have r := h.isF.rng
  have q := emod_rng (p := p) (by omega) a
  obtain ⟨K, hK⟩ := sqrt_none h.isF q.1 q.2 (fun hc => hz ((Cg.mod p a).symm.trans hc)) he
  refine ⟨K, fun k hk => ?_⟩
  unfold impl_SquareRoot.f
  simp (disch := omega) only [fieldOf_ok h, reduce_ok h.isF, hK, w64, tmod_pos, tdiv_pos, ↓if_pos, ↓if_neg, if_pos, if_neg, if_true, if_false, Option.bind_some, Bool.false_eq_true, Bool.not_true, Bool.not_false, ↓reduceIte]
theorem iSqrt_no (h : f < 0 ∨ 9 ≤ f) (a : Int) : Ev (fun k => impl_SquareRoot.f k f a) (-1) := by
  refine ⟨0, fun k hk => ?_⟩
  unfold impl_SquareRoot.f
  simp (disch := omega) only [fieldOf_no h, w64, tmod_pos, tdiv_pos, ↓if_pos, ↓if_neg, if_pos, if_neg, if_true, if_false, Option.bind_some, Bool.false_eq_true, Bool.not_true, Bool.not_false, ↓reduceIte]
/-- The reference's power with a negative exponent: an inverse of the power. -/
theorem neg_pow (h : IsF p g t) {z : Int} (hz : ¬ Cg p z 0) (k : Nat) (hk : (k : Int) ≤ 4611686018427387904) : Cg p ((z % p) ^ ((-(k : Int)) % (p - 1)).toNat % p * z ^ k) 1 := by
  have r := h.rng
  have hz' : ¬ Cg p (z % p) 0 := fun hc => hz ((Cg.mod p z).symm.trans hc)
  have q1 := emod_rng (p := p - 1) (by omega) (-(k : Int))
  have e1 : Cg p ((z % p) ^ (((-(k : Int)) % (p - 1)).toNat + k)) ((z % p) ^ 0) := by
    refine h.pow_cong hz' ?_
    rw [Int.natCast_add, Int.toNat_of_nonneg q1.1]
    exact (((Cg.mod (p - 1) (-(k : Int))).add (Cg.refl (p - 1) (k : Int))).trans (Cg.of_eq (by omega))).emod_eq
  refine ((Cg.mod p _).mul ((Cg.mod p z).symm.pow k)).trans ?_
  rw [← Int.pow_add]
  exact e1.trans (Cg.of_eq (by simp))
theorem mul_pow_int (x y : Int) (m : Nat) : (x * y) ^ m = x ^ m * y ^ m := by
  induction m with
  | zero => simp
  | succ m ihm => rw [Int.pow_succ, Int.pow_succ, Int.pow_succ, ihm]; grind
/-- The logarithm is found bit by bit. -/
theorem sSqrt_l0 (h : FI f p g t) {T : Nat} (hT : t.toNat = T + 1) {q : Nat} {P x y z : Int} (zo : 0 ≤ z ∧ z < p) (yo : 0 ≤ y ∧ y < p) (hzz : ¬ Cg p z 0) (hz : Cg p (z ^ 2 ^ T) (-1)) (d : Nat) : ∀ (i k : Nat), T + 1 - i = d → i ≤ T + 1 → k < 2 ^ i →
    (∃ W, Cg p (W * z ^ k) 1 ∧ Cg p ((y * W) ^ 2 ^ (T + 1 - i)) 1) →
    ∃ k2 : Nat, k2 < 2 ^ (T + 1) ∧ Cg p (z ^ k2) y ∧ ∀ v : Int, Ev (fun n => spec_SquareRoot.l0 n f P x ((T + 1 : Nat) : Int) q z y k2 ((T + 1 : Nat) : Int)) v → Ev (fun n => spec_SquareRoot.l0 n f P x ((T + 1 : Nat) : Int) q z y k i) v := by
  have r := h.isF.rng
  have hTb : T + 1 ≤ 26 := by omega
  induction d with
  | zero =>
    intro i k hd hi hk hJ
    obtain rfl : i = T + 1 := by omega
    refine ⟨k, hk, ?_, fun v hE => hE⟩
    obtain ⟨W, hW, hJ⟩ := hJ
    rw [Nat.sub_self, Nat.pow_zero, Int.pow_one] at hJ
    have e1 : Cg p (y * W * z ^ k) (1 * z ^ k) := hJ.mul (Cg.refl p _)
    have e2 : Cg p (y * (W * z ^ k)) (y * 1) := (Cg.refl p y).mul hW
    exact (Cg.of_eq (by grind)).trans (e1.symm.trans ((Cg.of_eq (by grind)).trans (e2.trans (Cg.of_eq (by omega)))))
  | succ d ih =>
    intro i k hd hi hk hJ
    obtain ⟨W, hW, hJ⟩ := hJ
    have hp62 : (2 : Int) ^ (T + 1) ≤ 2 ^ 26 := two_pow_le hTb
    have hpi := Nat.pow_le_pow_right (n := 2) (by decide) (show i ≤ 26 by omega)
    -- the reference's own inverse
    have hV := neg_pow h.isF hzz k (by omega)
    obtain ⟨V, eV⟩ : ∃ V, V = (z % p) ^ ((-(k : Int)) % (p - 1)).toNat % p := ⟨_, rfl⟩
    rw [← eV] at hV
    have hVr : 0 ≤ V ∧ V < p := eV ▸ emod_rng (by omega) _
    have hWV : Cg p W V := by
      have e1 : Cg p (z ^ k * W) (z ^ k * V) := (Cg.of_eq (Int.mul_comm _ _)).trans (hW.trans (hV.symm.trans (Cg.of_eq (Int.mul_comm _ _))))
      exact h.isF.cancel e1 (h.isF.pow_ne hzz k)
    obtain ⟨L, eL⟩ : ∃ L, L = y * V % p := ⟨_, rfl⟩
    have cL : Cg p L (y * V) := eL ▸ Cg.mod p _
    have hJL : Cg p (L ^ 2 ^ (T + 1 - i)) 1 := ((cL.trans ((Cg.refl p y).mul hWV.symm)).pow _).trans hJ
    have hL0 : ¬ Cg p L 0 := fun hc => by
      obtain ⟨m, hm⟩ : ∃ m, 2 ^ (T + 1 - i) = m + 1 := ⟨2 ^ (T + 1 - i) - 1, by have := Nat.two_pow_pos (T + 1 - i); omega⟩
      have h1 := (hc.pow (2 ^ (T + 1 - i))).symm.trans hJL
      rw [hm, Int.pow_succ, Int.mul_zero] at h1
      have := h1.eq (by omega) (by omega) (by omega) (by omega)
      omega
    have hLr : 0 ≤ L ∧ L < p := eL ▸ emod_rng (by omega) _
    obtain ⟨e, he⟩ : ∃ e, e = T - i := ⟨_, rfl⟩
    have hee : T + 1 - i = e + 1 := by omega
    have hpe := two_pow_le (show e ≤ 26 by omega)
    have hpe0 := two_pow_pos e
    obtain ⟨K1, h1⟩ := Power_ok h hzz (e := -(k : Int)) (by omega) (by omega)
    rw [← eV] at h1
    have e5 : ((2 : Int) ^ e) = ((2 ^ e : Nat) : Int) := by simp
    obtain ⟨K2, h2⟩ := Power_ok h hL0 (e := ((2 ^ e : Nat) : Int)) (by omega) (by omega)
    rw [Int.emod_eq_of_lt hLr.1 hLr.2] at h2
    have e6 : (((T + 1 : Nat) : Int) - 1 - (i : Int)).toNat = e := by omega
    have sq : Cg p (L ^ 2 ^ e * L ^ 2 ^ e) 1 := by
      rw [← Int.pow_add]
      refine (Cg.of_eq ?_).trans hJL
      rw [hee, Nat.pow_succ]
      congr 1
      omega
    by_cases hone : Cg p (L ^ 2 ^ e) 1
    · obtain ⟨k2, hk2, hy2, hE2⟩ := ih (i + 1) k (by omega) (by omega) (by rw [Nat.pow_succ]; omega) ⟨V, hV, by
        rw [show T + 1 - (i + 1) = e by omega]
        exact (cL.symm.pow _).trans hone⟩
      refine ⟨k2, hk2, hy2, fun v hE => ?_⟩
      obtain ⟨K3, h3⟩ := hE2 v hE
      have e7 := (pow_exp_iff h.isF hL0 (m := 2 ^ e)).mpr hone
      refine ⟨K1 + K2 + K3 + 1, fun n hn => ?_⟩
      obtain ⟨n, rfl⟩ : ∃ m, n = m + 1 := ⟨n - 1, by omega⟩
      simp (disch := omega) only [spec_SquareRoot.l0, h1, Mul_ok h, ← eL, u64_id, shl_one, e6, e5, h2, e7, w64, tmod_pos, tdiv_pos, ↓if_pos, ↓if_neg, if_pos, if_neg, if_true, if_false, Option.bind_some, Bool.false_eq_true, Bool.not_true, Bool.not_false, ↓reduceIte]
      exact h3 n (by omega)
    · have hneg : Cg p (L ^ 2 ^ e) (-1) := by
        rcases sq_one h.isF sq with h3 | h3
        · exact absurd h3 hone
        · exact h3
      have hV2 := neg_pow h.isF hzz (k + 2 ^ i) (by rw [Int.natCast_add]; omega)
      obtain ⟨V2, eV2⟩ : ∃ V2, V2 = (z % p) ^ ((-((k + 2 ^ i : Nat) : Int)) % (p - 1)).toNat % p := ⟨_, rfl⟩
      rw [← eV2] at hV2
      obtain ⟨k2, hk2, hy2, hE2⟩ := ih (i + 1) (k + 2 ^ i) (by omega) (by omega) (by rw [Nat.pow_succ]; omega) ⟨V2, hV2, by
        rw [show T + 1 - (i + 1) = e by omega]
        -- (y V2) z^(2^i) is L
        have c1 : Cg p (y * V2 * z ^ 2 ^ i) (y * V) := by
          have c2 : Cg p (z ^ k * (y * V2 * z ^ 2 ^ i)) (z ^ k * (y * V)) := by
            have a1 : Cg p (y * (V2 * z ^ (k + 2 ^ i))) (y * 1) := (Cg.refl p y).mul hV2
            have a2 : Cg p (y * (V * z ^ k)) (y * 1) := (Cg.refl p y).mul hV
            rw [Int.pow_add] at a1
            exact (Cg.of_eq (by grind)).trans (a1.trans (a2.symm.trans (Cg.of_eq (by grind))))
          exact h.isF.cancel c2 (h.isF.pow_ne hzz k)
        have c3 : Cg p ((y * V2 * z ^ 2 ^ i) ^ 2 ^ e) (-1) := ((c1.trans cL.symm).pow _).trans hneg
        rw [mul_pow_int, pow_pow_two, show i + e = T by omega] at c3
        have c4 := ((Cg.refl p ((y * V2) ^ 2 ^ e)).mul hz).symm.trans c3
        exact (Cg.of_eq (by omega)).trans (c4.neg.trans (Cg.of_eq (by decide)))⟩
      refine ⟨k2, hk2, hy2, fun v hE => ?_⟩
      obtain ⟨K3, h3⟩ := hE2 v hE
      have e7 : ¬ L ^ (((2 ^ e : Nat) : Int) % (p - 1)).toNat % p = 1 := fun hc => hone ((pow_exp_iff h.isF hL0 (m := 2 ^ e)).mp hc)
      have e8 : shl .i64 1 (i : Int) = ((2 ^ i : Nat) : Int) := by
        rw [shl_one (by omega) (by omega), Int.toNat_natCast]
        simp
      have e9 : ((k : Int) + ((2 ^ i : Nat) : Int)) = ((k + 2 ^ i : Nat) : Int) := by omega
      refine ⟨K1 + K2 + K3 + 1, fun n hn => ?_⟩
      obtain ⟨n, rfl⟩ : ∃ m, n = m + 1 := ⟨n - 1, by omega⟩
      simp (disch := omega) only [spec_SquareRoot.l0, h1, Mul_ok h, ← eL, u64_id, e8, shl_one, e6, e5, h2, e7, w64, tmod_pos, tdiv_pos, ↓if_pos, ↓if_neg, if_pos, if_neg, if_true, if_false, Option.bind_some, Bool.false_eq_true, Bool.not_true, Bool.not_false, ↓reduceIte]
      rw [e9]
      exact h3 n (by omega)
theorem sSqrt_key (h : FI f p g t) {a : Int} (hz : ¬ Cg p a 0) : ∃ v : Int, Ev (fun k => spec_SquareRoot.f k f a) v ∧ (Cg p ((a % p) ^ ((p.toNat - 1) / 2)) 1 → SqR p (a % p) v) ∧ (¬ Cg p ((a % p) ^ ((p.toNat - 1) / 2)) 1 → v = -1) := by
  have r := h.isF.rng
  have qa := emod_rng (p := p) (by omega) a
  obtain ⟨A, eA⟩ : ∃ A, A = a % p := ⟨_, rfl⟩
  rw [← eA] at qa ⊢
  have hA : ¬ Cg p A 0 := fun hc => hz ((Cg.mod p a).symm.trans ((Cg.of_eq eA.symm).trans hc))
  have hA0 : A ≠ 0 := fun hc => hA (Cg.of_eq hc)
  obtain ⟨q, hodd, hq, hg⟩ := h.isF.odd
  have ep := euler_pow h.isF hq
  have s := shr_p h.isF (show 0 ≤ t by omega) (by omega)
  have es : (shr .i64 (p - 1) t).toNat = q := by rw [s.1, hq, Nat.mul_div_cancel _ (Nat.two_pow_pos _)]
  have esq : shr .i64 (p - 1) t = (q : Int) := by omega
  have hqlt : (q : Int) ≤ (p - 1) / 2 := by
    have h1 : q ≤ (p.toNat - 1) / 2 := by rw [ep]; exact Nat.le_mul_of_pos_right _ (Nat.two_pow_pos _)
    omega
  obtain ⟨T, hT⟩ : ∃ T, t.toNat = T + 1 := ⟨t.toNat - 1, by omega⟩
  have htT : t = ((T + 1 : Nat) : Int) := by omega
  rw [hT, Nat.add_sub_cancel] at ep hg
  obtain ⟨K1, h1⟩ := TwoPower_ok h
  obtain ⟨K2, h2⟩ := Generator_ok h
  obtain ⟨K3, h3⟩ := Power_ok h h.isF.g_ne (e := (q : Int)) (by omega) (by omega)
  obtain ⟨K4, h4⟩ := Power_ok h hA (e := (q : Int)) (by omega) (by omega)
  have eq1 : ((q : Int) % (p - 1)).toNat = q := by rw [Int.emod_eq_of_lt (by omega) (by omega)]; exact Int.toNat_natCast _
  rw [eq1, Int.emod_eq_of_lt (show 0 ≤ g by omega) (by omega)] at h3
  rw [eq1, Int.emod_eq_of_lt qa.1 qa.2] at h4
  obtain ⟨z, ez⟩ : ∃ z, z = g ^ q % p := ⟨_, rfl⟩
  obtain ⟨y, ey⟩ : ∃ y, y = A ^ q % p := ⟨_, rfl⟩
  rw [← ez] at h3
  rw [← ey] at h4
  have zo : 0 ≤ z ∧ z < p := ez ▸ emod_rng (by omega) _
  have yo : 0 ≤ y ∧ y < p := ey ▸ emod_rng (by omega) _
  have cz : Cg p z (g ^ q) := ez ▸ Cg.mod p _
  have cy : Cg p y (A ^ q) := ey ▸ Cg.mod p _
  have hzz : ¬ Cg p z 0 := fun hc => h.isF.pow_ne h.isF.g_ne q (cz.symm.trans hc)
  have hzT : Cg p (z ^ 2 ^ T) (-1) := (cz.pow _).trans ((Cg.of_eq (by rw [← Int.pow_mul])).trans hg)
  have hyT : Cg p ((y * 1) ^ 2 ^ (T + 1 - 0)) 1 := by
    rw [Int.mul_one, Nat.sub_zero]
    refine (cy.pow _).trans ((Cg.of_eq ?_).trans (h.isF.flt hA))
    rw [← Int.pow_mul, hq, hT]
  obtain ⟨k, hk, hyk, hE⟩ := sSqrt_l0 h hT (q := q) (P := p) (x := A) zo yo hzz hzT (T + 1) 0 0 (by omega) (by omega) (by simp) ⟨1, Cg.of_eq (by simp), hyT⟩
  -- Euler's test in the logarithm's words
  have heul : Cg p (A ^ ((p.toNat - 1) / 2)) ((-1) ^ k) := by
    rw [ep]
    have e1 : A ^ (q * 2 ^ T) = (A ^ q) ^ 2 ^ T := by rw [Int.pow_mul]
    refine (Cg.of_eq e1).trans ((cy.symm.pow _).trans ((hyk.symm.pow _).trans ((Cg.of_eq ?_).trans (hzT.pow k))))
    rw [← Int.pow_mul, ← Int.pow_mul, Nat.mul_comm]
  have hpk := Nat.pow_le_pow_right (n := 2) (by decide) (show T + 1 ≤ 26 by omega)
  have neg_pow_par : ∀ m : Nat, ((-1 : Int)) ^ (2 * m) = 1 := fun m => by rw [Int.pow_mul, show (-1 : Int) ^ 2 = 1 by decide, Int.one_pow]
  by_cases hko : k % 2 = 1
  · have e1 : (-1 : Int) ^ k = -1 := by
      rw [show k = 2 * (k / 2) + 1 by omega, Int.pow_succ, neg_pow_par]; decide
    rw [e1] at heul
    have hno : ¬ Cg p (A ^ ((p.toNat - 1) / 2)) 1 := fun hc => one_ne_neg h.isF (hc.symm.trans heul)
    obtain ⟨K5, h5⟩ := hE (-1) ⟨1, fun n hn => by
      obtain ⟨n, rfl⟩ : ∃ m, n = m + 1 := ⟨n - 1, by omega⟩
      have e2 : (k : Int) % 2 = 1 := by omega
      simp (disch := omega) only [spec_SquareRoot.l0, e2, w64, tmod_pos, tdiv_pos, ↓if_pos, ↓if_neg, if_pos, if_neg, if_true, if_false, Option.bind_some, Bool.false_eq_true, Bool.not_true, Bool.not_false, ↓reduceIte]⟩
    refine ⟨-1, ⟨K1 + K2 + K3 + K4 + K5, fun n hn => ?_⟩, fun hc => absurd hc hno, fun _ => rfl⟩
    unfold spec_SquareRoot.f
    simp (disch := omega) only [↓bnd (Modulus_ok h), ↓bnd (Reduce_ok h a), ← eA, ↓bnd (h1 n (by omega)), ↓bnd (h2 n (by omega)), u64_id, esq, bnd (h3 n (by omega)), bnd (h4 n (by omega)), ↓Option.bind_some, ↓reduceIte, ↓if_pos, ↓if_neg, if_pos, if_neg, w64, Bool.not_true, Bool.not_false, Bool.false_eq_true]
    rw [htT]
    exact h5 n (by omega)
  · have e1 : (-1 : Int) ^ k = 1 := by rw [show k = 2 * (k / 2) by omega, neg_pow_par]
    rw [e1] at heul
    obtain ⟨K6, h6⟩ := Power_ok h hA (e := ((q : Int) + 1) / 2) (by omega) (by omega)
    have eq2 : (((q : Int) + 1) / 2 % (p - 1)).toNat = (q + 1) / 2 := by
      rw [Int.emod_eq_of_lt (by omega) (by omega)]
      omega
    rw [eq2, Int.emod_eq_of_lt qa.1 qa.2] at h6
    obtain ⟨k', ek'⟩ : ∃ k', k' = k / 2 := ⟨_, rfl⟩
    have ek2 : ((k : Int) / 2) = (k' : Int) := by omega
    obtain ⟨K7, h7⟩ := Power_ok h hzz (e := -(k' : Int)) (by omega) (by omega)
    have hV := neg_pow h.isF hzz k' (by omega)
    obtain ⟨V, eV⟩ : ∃ V, V = (z % p) ^ ((-(k' : Int)) % (p - 1)).toNat % p := ⟨_, rfl⟩
    rw [← eV] at hV h7
    obtain ⟨B, eB⟩ : ∃ B, B = A ^ ((q + 1) / 2) % p := ⟨_, rfl⟩
    rw [← eB] at h6
    have cB : Cg p B (A ^ ((q + 1) / 2)) := eB ▸ Cg.mod p _
    obtain ⟨S, eS⟩ : ∃ S, S = B * V % p := ⟨_, rfl⟩
    have hS : 0 ≤ S ∧ S < p := eS ▸ emod_rng (by omega) _
    have cS : Cg p S (B * V) := eS ▸ Cg.mod p _
    have hSS : Cg p (S * S) A := by
      have a1 : Cg p (z ^ k * (S * S)) (z ^ k * A) := by
        have a2 : Cg p (S * S * z ^ (k' + k')) (B * B * (V * z ^ k' * (V * z ^ k'))) := by
          refine ((cS.mul cS).mul (Cg.refl p _)).trans (Cg.of_eq ?_)
          rw [Int.pow_add]
          grind
        have a3 : Cg p (B * B * (V * z ^ k' * (V * z ^ k'))) (B * B * (1 * 1)) := (Cg.refl p _).mul (hV.mul hV)
        have a4 : Cg p (B * B) (A ^ q * A) := by
          refine (cB.mul cB).trans (Cg.of_eq ?_)
          rw [← Int.pow_add, ← Int.pow_succ]
          congr 1
          omega
        have a5 : Cg p (A ^ q * A) (z ^ k * A) := ((cy.symm.trans hyk.symm)).mul (Cg.refl p A)
        have ekk : z ^ k = z ^ (k' + k') := by congr 1; omega
        rw [ekk] at a5 ⊢
        exact (Cg.of_eq (Int.mul_comm _ _)).trans (a2.trans (a3.trans ((Cg.of_eq (by omega)).trans (a4.trans a5))))
      exact h.isF.cancel a1 (h.isF.pow_ne hzz k)
    have hmn : SqR p A (mn S (p - S)) := SqR.of h.isF hS.1 hS.2 hSS hA
    obtain ⟨K5, h5⟩ := hE (mn S (p - S)) ⟨K6 + K7 + 1, fun n hn => by
      obtain ⟨n, rfl⟩ : ∃ m, n = m + 1 := ⟨n - 1, by omega⟩
      have e2 : ¬ (k : Int) % 2 = 1 := by omega
      unfold mn
      by_cases hlt : p - S < S
      · simp (disch := omega) only [spec_SquareRoot.l0, e2, ek2, h6, h7, Mul_ok h, ← eS, w64, tmod_pos, tdiv_pos, ↓if_pos, ↓if_neg, if_pos, if_neg, if_true, if_false, Option.bind_some, Bool.false_eq_true, Bool.not_true, Bool.not_false, ↓reduceIte]
      · simp (disch := omega) only [spec_SquareRoot.l0, e2, ek2, h6, h7, Mul_ok h, ← eS, w64, tmod_pos, tdiv_pos, ↓if_pos, ↓if_neg, if_pos, if_neg, if_true, if_false, Option.bind_some, Bool.false_eq_true, Bool.not_true, Bool.not_false, ↓reduceIte]⟩
    refine ⟨mn S (p - S), ⟨K1 + K2 + K3 + K4 + K5, fun n hn => ?_⟩, fun _ => hmn, fun hc => absurd heul hc⟩
    unfold spec_SquareRoot.f
    simp (disch := omega) only [↓bnd (Modulus_ok h), ↓bnd (Reduce_ok h a), ← eA, ↓bnd (h1 n (by omega)), ↓bnd (h2 n (by omega)), u64_id, esq, bnd (h3 n (by omega)), bnd (h4 n (by omega)), ↓Option.bind_some, ↓reduceIte, ↓if_pos, ↓if_neg, if_pos, if_neg, w64, Bool.not_true, Bool.not_false, Bool.false_eq_true]
    rw [htT]
    exact h5 n (by omega)
theorem sSqrt_zero (h : FI f p g t) {a : Int} (hz : Cg p a 0) : Ev (fun k => spec_SquareRoot.f k f a) 0 := by
  have r := h.isF.rng
  have e0 := hz.emod_of (by omega) (by omega)
  refine ⟨0, fun k hk => ?_⟩
  unfold spec_SquareRoot.f
  simp (disch := omega) only [Modulus_ok h, Reduce_ok h, e0, w64, tmod_pos, tdiv_pos, ↓if_pos, ↓if_neg, if_pos, if_neg, if_true, if_false, Option.bind_some, Bool.false_eq_true, Bool.not_true, Bool.not_false, ↓reduceIte]
theorem sSqrt_no (h : f < 0 ∨ 9 ≤ f) (a : Int) : Ev (fun k => spec_SquareRoot.f k f a) (-1) := by
  refine ⟨0, fun k hk => ?_⟩
  unfold spec_SquareRoot.f
  simp (disch := omega) only [Modulus_no h, w64, tmod_pos, tdiv_pos, ↓if_pos, ↓if_neg, if_pos, if_neg, if_true, if_false, Option.bind_some, Bool.false_eq_true, Bool.not_true, Bool.not_false, ↓reduceIte]
end

end Go.Proofs.Ytohneiapknlpgaa.M
