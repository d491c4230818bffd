import Derived.Test.YtginidfoikheaaaG0
/- An element raised to its Order is 1, and raised to its Order divided by any of its prime divisors it is not. No condition: for every argument. -/
import Derived.Test.YtginidfoikheaaaZFnOrderLeastMi
import Derived.Test.YtginidfoikheaaaZFnOrderLeastMk
import Derived.Test.YtginidfoikheaaaZFnOrderLeastMo
import Derived.Test.YtginidfoikheaaaZFnOrderLeast6
namespace Go.Proofs.Ytginidfoikheaaa.Pure
open Go.RowKit Go.Proofs.Ytginidfoikheaaa.P Go.Proofs.Ytginidfoikheaaa.M Go.Proofs.YtginidfoikheaaaW.PrintWords Go.Proofs.YtginidfoikheaaaW.PrintLast Go.Proofs.YtginidfoikheaaaW.PrintMore
set_option linter.unusedVariables false
set_option linter.unusedSimpArgs false

section
variable {f p g t : Int}
theorem DrawOrder_ok {s : List Int} (hs : s.length ≤ 1048576) : ∃ (f a : Int), Ev (fun k => spec_DrawOrder.f k s) (f, a) := by
  obtain ⟨c, K, hK⟩ := New_ok hs
  obtain ⟨f, i1, c1, e1, _, _, hc1⟩ := DrawField_ok (Cur.start hs) c
  obtain ⟨x, i2, c2, e2, hx, hc2⟩ := DrawAny_ok hc1 c1 f
  rcases FI.cases f with ⟨p, g, t, h⟩ | h
  · have r := h.isF.rng
    have hf := h.f_rng
    obtain ⟨b, i3, c3, e3, hc3⟩ := Once_ok hc2 c2 2
    cases b with
    | false =>
      refine ⟨f, x, K + 1, fun k hk => ?_⟩
      obtain ⟨k, rfl⟩ : ∃ m, k = m + 1 := ⟨k - 1, by omega⟩
      unfold spec_DrawOrder.f
      simp (disch := omega) only [hK, e1, e2, e3, spec_DrawOrder.j0, w64, tmod_pos, tdiv_pos, ↓if_pos, ↓if_neg, if_pos, if_neg, if_true, if_false, Option.bind_some, Bool.false_eq_true, Bool.not_true, Bool.not_false, ↓reduceIte]
    | true =>
      obtain ⟨z, i4, c4, e4, hz, hc4⟩ := Pick_ok hc3 c3 (l := [1, 2, 4, 8, 16]) (by decide) (by decide)
      have hz' : 1 ≤ z ∧ z ≤ 16 := by simp at hz; omega
      obtain ⟨K1, h1⟩ := Generator_ok h
      have hg : ¬ Cg p g 0 := fun hc => by have := (h.isF.cg0 (a := g) (by omega) (by omega)).1 hc; omega
      have b1 : 0 ≤ (p - 1) / z ∧ (p - 1) / z ≤ p - 1 := ⟨Int.ediv_nonneg (by omega) (by omega), Int.ediv_le_self _ (by omega)⟩
      obtain ⟨K2, h2⟩ := Power_ok h hg (e := (p - 1) / z) (by omega) (by omega)
      refine ⟨f, (g % p) ^ ((p - 1) / z % (p - 1)).toNat % p, K + K1 + K2 + 1, fun k hk => ?_⟩
      obtain ⟨k, rfl⟩ : ∃ m, k = m + 1 := ⟨k - 1, by omega⟩
      unfold spec_DrawOrder.f
      simp (disch := omega) only [hK, e1, e2, e3, spec_DrawOrder.j0, h1, Modulus_ok h, e4, h2, w64, tmod_pos, tdiv_pos, ↓if_pos, ↓if_neg, if_pos, if_neg, if_true, if_false, Option.bind_some, Bool.false_eq_true, Bool.not_true, Bool.not_false, ↓reduceIte]
  · refine ⟨f, x, K + 1, fun k hk => ?_⟩
    obtain ⟨k, rfl⟩ : ∃ m, k = m + 1 := ⟨k - 1, by omega⟩
    unfold spec_DrawOrder.f
    by_cases h0 : f ≥ 0
    · simp (disch := omega) only [hK, e1, e2, spec_DrawOrder.j0, w64, tmod_pos, tdiv_pos, ↓if_pos, ↓if_neg, if_pos, if_neg, if_true, if_false, Option.bind_some, Bool.false_eq_true, Bool.not_true, Bool.not_false, ↓reduceIte]
    · simp (disch := omega) only [hK, e1, e2, spec_DrawOrder.j0, w64, tmod_pos, tdiv_pos, ↓if_pos, ↓if_neg, if_pos, if_neg, if_true, if_false, Option.bind_some, Bool.false_eq_true, Bool.not_true, Bool.not_false, ↓reduceIte]
/-- A power below the order is not 1. -/
theorem below (h : FI f p g t) {a : Int} (hz : ¬ Cg p a 0) {r d : Nat} (hr : IsOrd p (a % p) r) (hrp : (r : Int) ≤ p - 1) (hd : 2 ≤ d) (hdr : d ∣ r) : ∃ v, v ≠ 1 ∧ Ev (fun k => impl_Power.f k f a ((r / d : Nat) : Int)) v := by
  have rg := h.isF.rng
  have hr0 := hr.pos
  have h1 : 0 < r / d := Nat.div_pos (Nat.le_of_dvd hr0 hdr) (by omega)
  have h2 : r / d < r := Nat.div_lt_self hr0 (by omega)
  refine ⟨_, ?_, iPower_ok h hz (e := ((r / d : Nat) : Int)) (by omega) (by omega)⟩
  intro e
  have c : Cg p ((a % p) ^ (((r / d : Nat) : Int) % (p - 1)).toNat) 1 := Cg.of_emod (by rw [e]; exact (Int.emod_eq_of_lt (by omega) (by omega)).symm)
  rw [Int.emod_eq_of_lt (a := ((r / d : Nat) : Int)) (b := p - 1) (by omega) (by omega), Int.toNat_natCast] at c
  have := hr.least _ h1 c
  omega
theorem ol_l1 (a : Int) (r q : Nat) (hq : 2 ≤ q) (hq' : q ≤ 40000) (hr : r ≤ 1004535809) (F : ∀ n : Nat, 1 ≤ n → n ∣ r → Ev (fun k => laws_FnOrderLeast.l0 k f a r n ((q + 1 : Nat) : Int)) true) (m : Nat) :
    ∀ n : Nat, n ≤ m → 1 ≤ n → n ∣ r → n ≤ 1004535809 → Ev (fun k => laws_FnOrderLeast.l1 k f a r n q) true := by
  induction m with
  | zero => intro n h1 h2; omega
  | succ m ih =>
    intro n h1 h2 h3 h4
    have e1 : (n : Int) % (q : Int) = ((n % q : Nat) : Int) := by omega
    have e2 : (n : Int) / (q : Int) = ((n / q : Nat) : Int) := by omega
    have b2 : n / q ≤ n := Nat.div_le_self _ _
    by_cases c : n % q = 0
    · have hd : q ∣ n := Nat.dvd_of_mod_eq_zero c
      have h5 : n / q < n := Nat.div_lt_self (by omega) (by omega)
      have h6 : 1 ≤ n / q := Nat.div_pos (Nat.le_of_dvd (by omega) hd) (by omega)
      obtain ⟨K, hK⟩ := ih (n / q) (by omega) h6 (Nat.dvd_trans (Nat.div_dvd_of_dvd hd) h3) (by omega)
      refine ⟨K + 1, fun k hk => ?_⟩
      obtain ⟨k, rfl⟩ : ∃ m, k = m + 1 := ⟨k - 1, by omega⟩
      have h7 := hK k (by omega)
      dsimp only at h7
      generalize hu : n / q = u at *
      simp (disch := omega) only [laws_FnOrderLeast.l1, e1, e2, c, w64, tmod_pos, tdiv_pos, ↓if_pos, ↓if_neg, if_pos, if_neg, if_true, if_false, Option.bind_some, Bool.false_eq_true, Bool.not_true, Bool.not_false, ↓reduceIte]
      exact h7
    · obtain ⟨K, hK⟩ := F n h2 h3
      refine ⟨K + 1, fun k hk => ?_⟩
      obtain ⟨k, rfl⟩ : ∃ m, k = m + 1 := ⟨k - 1, by omega⟩
      have h7 := hK k (by omega)
      dsimp only at h7
      generalize hu : n % q = u at *
      simp (disch := omega) only [laws_FnOrderLeast.l1, e1, w64, tmod_pos, tdiv_pos, ↓if_pos, ↓if_neg, if_pos, if_neg, if_true, if_false, Option.bind_some, Bool.false_eq_true, Bool.not_true, Bool.not_false, ↓reduceIte]
      exact h7
theorem ol_l0 (h : FI f p g t) {a : Int} (hz : ¬ Cg p a 0) {r : Nat} (hr : IsOrd p (a % p) r) (hrp : (r : Int) ≤ p - 1) (d : Nat) : ∀ (q n : Nat), 40000 - q = d → 2 ≤ q → (q - 1) * (q - 1) ≤ 1004535809 → 1 ≤ n → n ∣ r → Ev (fun k => laws_FnOrderLeast.l0 k f a r n q) true := by
  have rg := h.isF.rng
  have hr0 := hr.pos
  have hqb : ∀ q : Nat, (q - 1) * (q - 1) ≤ 1004535809 → q ≤ 31701 := by
    intro q hq
    refine Nat.le_of_not_lt fun hlt => ?_
    have : 31701 * 31701 ≤ (q - 1) * (q - 1) := Nat.mul_le_mul (by omega) (by omega)
    omega
  have fin : ∀ (q n : Nat), q ≤ 31701 → 1 ≤ n → n ∣ r → ¬ q * q ≤ n → Ev (fun k => laws_FnOrderLeast.l0 k f a r n q) true := by
    intro q n hq h1 h2 h3
    have hnr := Nat.le_of_dvd hr0 h2
    have hqq : q * q ≤ 31701 * 31701 := Nat.mul_le_mul hq hq
    have e : (q : Int) * (q : Int) = ((q * q : Nat) : Int) := by simp
    by_cases c : n = 1
    · subst c
      refine ⟨1, fun k hk => ?_⟩
      obtain ⟨k, rfl⟩ : ∃ m, k = m + 1 := ⟨k - 1, by omega⟩
      generalize q * q = u at *
      simp (disch := omega) only [laws_FnOrderLeast.l0, e, w64, tmod_pos, tdiv_pos, ↓if_pos, ↓if_neg, if_pos, if_neg, if_true, if_false, Option.bind_some, Bool.false_eq_true, Bool.not_true, Bool.not_false, ↓reduceIte]
    · obtain ⟨v, hv, K, hK⟩ := below h hz hr hrp (d := n) (by omega) h2
      have e2 : (r : Int) / (n : Int) = ((r / n : Nat) : Int) := by omega
      have b2 : r / n ≤ r := Nat.div_le_self _ _
      have hb : (v != 1) = true := bne_iff_ne.2 hv
      refine ⟨K + 1, fun k hk => ?_⟩
      obtain ⟨k, rfl⟩ : ∃ m, k = m + 1 := ⟨k - 1, by omega⟩
      have h7 := hK k (by omega)
      dsimp only at h7
      generalize q * q = u at *
      generalize r / n = w at *
      simp (disch := omega) only [laws_FnOrderLeast.l0, e, e2, h7, hb, w64, tmod_pos, tdiv_pos, ↓if_pos, ↓if_neg, if_pos, if_neg, if_true, if_false, Option.bind_some, Bool.false_eq_true, Bool.not_true, Bool.not_false, ↓reduceIte]
  induction d with
  | zero => intro q n hd hq hqq; have := hqb q hqq; omega
  | succ d ih =>
    intro q n hd hq hqq h1 h2
    have hq3 := hqb q hqq
    have hnr := Nat.le_of_dvd hr0 h2
    by_cases c : q * q ≤ n
    · have F : ∀ n : Nat, 1 ≤ n → n ∣ r → Ev (fun k => laws_FnOrderLeast.l0 k f a r n ((q + 1 : Nat) : Int)) true := fun n' h1' h2' =>
        ih (q + 1) n' (by omega) (by omega) (by rw [Nat.add_sub_cancel]; omega) h1' h2'
      have L := ol_l1 (f := f) a r q hq (by omega) (by omega) F n n (Nat.le_refl _) h1 h2 (by omega)
      obtain ⟨K2, hK2⟩ := L
      have e : (q : Int) * (q : Int) = ((q * q : Nat) : Int) := by simp
      have e1 : (n : Int) % (q : Int) = ((n % q : Nat) : Int) := by omega
      by_cases c2 : n % q = 0
      · obtain ⟨v, hv, K, hK⟩ := below h hz hr hrp (d := q) hq (Nat.dvd_trans (Nat.dvd_of_mod_eq_zero c2) h2)
        have e2 : (r : Int) / (q : Int) = ((r / q : Nat) : Int) := by omega
        have b2 : r / q ≤ r := Nat.div_le_self _ _
        have hb : (v == 1) = false := beq_eq_false_iff_ne.2 hv
        refine ⟨K + K2 + 2, fun k hk => ?_⟩
        obtain ⟨k, rfl⟩ : ∃ m, k = m + 2 := ⟨k - 2, by omega⟩
        have h7 := hK (k + 1) (by omega)
        have h8 := hK2 k (by omega)
        dsimp only at h7 h8
        generalize q * q = u at *
        generalize r / q = w at *
        generalize n % q = y at *
        simp (disch := omega) only [laws_FnOrderLeast.l0, e, e1, e2, c2, h7, hb, laws_FnOrderLeast.j3, w64, tmod_pos, tdiv_pos, ↓if_pos, ↓if_neg, if_pos, if_neg, if_true, if_false, Option.bind_some, Bool.false_eq_true, Bool.not_true, Bool.not_false, ↓reduceIte]
        exact h8
      · refine ⟨K2 + 2, fun k hk => ?_⟩
        obtain ⟨k, rfl⟩ : ∃ m, k = m + 2 := ⟨k - 2, by omega⟩
        have h8 := hK2 k (by omega)
        dsimp only at h8
        generalize q * q = u at *
        generalize n % q = y at *
        simp (disch := omega) only [laws_FnOrderLeast.l0, e, e1, laws_FnOrderLeast.j3, w64, tmod_pos, tdiv_pos, ↓if_pos, ↓if_neg, if_pos, if_neg, if_true, if_false, Option.bind_some, Bool.false_eq_true, Bool.not_true, Bool.not_false, ↓reduceIte]
        exact h8
    · exact fin q n hq3 h1 h2 c
theorem FnOrderLeast : laws_FnOrderLeast.Pure := by
  intro s _ _ _
  by_cases hl : 1048576 < s.length
  · refine ⟨0, ?_⟩
    unfold laws_FnOrderLeast.f
    simp (disch := omega) only [↓bnd (big_no hl), ↓Option.bind_some, ↓reduceIte, ↓if_pos, ↓if_neg, if_pos, if_neg, w64, Bool.not_true, Bool.not_false, Bool.false_eq_true]
  obtain ⟨f, a, K1, h1⟩ := DrawOrder_ok (s := s) (by omega)
  have hbig := big_ok (s := s) (by omega)
  rcases FI.cases f with ⟨p, g, t, h⟩ | h
  · have rg := h.isF.rng
    by_cases hz : Cg p a 0
    · have e0 : (a % p == 0) = true := beq_iff_eq.2 (hz.emod_of (by omega) (by omega))
      refine ⟨K1 + 1, ?_⟩
      unfold laws_FnOrderLeast.f
      simp (disch := omega) only [↓bnd (h1 (K1 + 1) (by omega)), ↓bnd hbig, ↓bnd (isField_ok h), ↓bnd (Reduce_ok h a), e0, laws_FnOrderLeast.j0, ↓Option.bind_some, ↓reduceIte, ↓if_pos, ↓if_neg, if_pos, if_neg, w64, Bool.not_true, Bool.not_false, Bool.false_eq_true]
    · have e0 : (a % p == 0) = false := beq_eq_false_iff_ne.2 fun hc => hz ((Cg.mod p a).symm.trans (Cg.of_eq hc))
      obtain ⟨r, hr, hrp, K2, h2⟩ := iOrder_ok h hz
      have hr0 := hr.pos
      obtain ⟨K3, h3⟩ := iPower_ok h hz (e := (r : Int)) (by omega) (by omega)
      have e1 : (a % p) ^ ((r : Int) % (p - 1)).toNat % p = 1 := by
        by_cases c : (r : Int) = p - 1
        · rw [c, Int.emod_self]
          show (a % p) ^ 0 % p = 1
          rw [Int.pow_zero]; exact Int.emod_eq_of_lt (by omega) (by omega)
        · rw [Int.emod_eq_of_lt (a := (r : Int)) (b := p - 1) (by omega) (by omega), Int.toNat_natCast]
          exact hr.one.emod_of (by omega) (by omega)
      rw [e1] at h3
      obtain ⟨K4, h4⟩ := ol_l0 h hz hr hrp (40000 - 2) 2 r rfl (by omega) (by omega) (by omega) (Nat.dvd_refl r)
      obtain ⟨KK, hKK⟩ : ∃ KK, KK = K1 + K2 + K3 + K4 := ⟨_, rfl⟩
      have h5 := h4 (KK + 1) (by omega)
      dsimp only at h5
      refine ⟨KK + 3, ?_⟩
      unfold laws_FnOrderLeast.f
      simp (disch := omega) only [↓bnd hbig, ↓bnd (isField_ok h), ↓bnd (Reduce_ok h a), e0, bne_self_eq_false, laws_FnOrderLeast.j0, laws_FnOrderLeast.j1, ↓bnd (h1 (KK + 3) (by omega)), ↓bnd (h1 (KK + 2) (by omega)), ↓bnd (h1 (KK + 1) (by omega)), ↓bnd (h1 KK (by omega)), ↓bnd (h2 (KK + 3) (by omega)), ↓bnd (h2 (KK + 2) (by omega)), ↓bnd (h2 (KK + 1) (by omega)), ↓bnd (h2 KK (by omega)), ↓bnd (h3 (KK + 3) (by omega)), ↓bnd (h3 (KK + 2) (by omega)), ↓bnd (h3 (KK + 1) (by omega)), ↓bnd (h3 KK (by omega)), ↓Option.bind_some, ↓reduceIte, ↓if_pos, ↓if_neg, if_pos, if_neg, w64, Bool.not_true, Bool.not_false, Bool.false_eq_true]
      exact h5
  · refine ⟨K1 + 1, ?_⟩
    unfold laws_FnOrderLeast.f
    simp (disch := omega) only [↓bnd (h1 (K1 + 1) (by omega)), ↓bnd hbig, ↓bnd (isField_no h), laws_FnOrderLeast.j0, ↓Option.bind_some, ↓reduceIte, ↓if_pos, ↓if_neg, if_pos, if_neg, w64, Bool.not_true, Bool.not_false, Bool.false_eq_true]
end

end Go.Proofs.Ytginidfoikheaaa.Pure
