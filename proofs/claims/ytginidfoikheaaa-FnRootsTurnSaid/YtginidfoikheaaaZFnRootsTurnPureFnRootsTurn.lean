import Derived.Test.YtginidfoikheaaaG0
/- For a field and k drawn so that the field has a root of order 2^k and k is at most MaxLog: Roots has 2^k elements, the first is 1, each further one is the one ahead of it times the second and is not 1; RootSum by j is the sum of their powers by j; and IsRoot holds of RootOf. No condition: for every argument. -/
import Derived.Test.YtginidfoikheaaaZFnRootsTurnMi
import Derived.Test.YtginidfoikheaaaZFnRootsTurnMj
import Derived.Test.YtginidfoikheaaaZFnRootsTurnMk
import Derived.Test.YtginidfoikheaaaZFnRootsTurnMo
import Derived.Test.YtginidfoikheaaaZFnRootsTurnMp
import Derived.Test.YtginidfoikheaaaZFnRootsTurn6
namespace Go.Proofs.Ytginidfoikheaaa.Pure
open Go.RowKit Go.Proofs.Ytginidfoikheaaa.P Go.Proofs.Ytginidfoikheaaa.M Go.Proofs.YtginidfoikheaaaW.PrintWords Go.Proofs.YtginidfoikheaaaW.PrintLast Go.Proofs.YtginidfoikheaaaW.PrintMore
set_option linter.unusedVariables false
set_option linter.unusedSimpArgs false

section
variable {f p g t : Int}
theorem wr_cg (p g : Int) (k : Nat) : Cg p (wr p g k) (g ^ ((p.toNat - 1) / 2 ^ k)) := Cg.mod p _
theorem wr_neg (h : IsF p g t) {K : Nat} (hK : ((K + 1 : Nat) : Int) ≤ t) : Cg p (wr p g (K + 1) ^ 2 ^ K) (-1) := by
  have r := h.rng
  obtain ⟨q, _, e, hg⟩ := h.odd
  obtain ⟨d, hd⟩ : ∃ d, t.toNat = K + 1 + d := ⟨t.toNat - (K + 1), by omega⟩
  have e1 : (p.toNat - 1) / 2 ^ (K + 1) = q * 2 ^ d := by
    rw [e, hd, Nat.pow_add, ← Nat.mul_assoc, Nat.mul_right_comm]
    exact Nat.mul_div_cancel _ (Nat.two_pow_pos _)
  have e2 : q * 2 ^ d * 2 ^ K = q * 2 ^ (t.toNat - 1) := by
    rw [Nat.mul_assoc, ← Nat.pow_add, hd]
    congr 2
    omega
  refine ((wr_cg p g (K + 1)).pow (2 ^ K)).trans ((Cg.of_eq ?_).trans hg)
  rw [e1, ← Int.pow_mul, e2]
theorem wr_ord (h : IsF p g t) {K : Nat} (hK : (K : Int) ≤ t) : IsOrd p (wr p g K) (2 ^ K) := by
  have r := h.rng
  cases K with
  | zero =>
    refine ⟨by decide, ?_, fun d hd _ => hd⟩
    refine (Cg.of_eq (Int.pow_one _)).trans ((wr_cg p g 0).trans ?_)
    rw [Nat.pow_zero, Nat.div_one]
    exact h.flt h.g_ne
  | succ K => exact ord_two h (wr_neg h hK)
theorem wr_isr (h : IsF p g t) {K : Nat} (hK : (K : Int) ≤ t) : isr p (wr p g K) K = true := by
  have r := h.rng
  have q := wr_rng (p := p) (by omega) g K
  cases K with
  | zero =>
    have := (wr_ord h hK).one
    rw [Nat.pow_zero, Int.pow_one] at this
    exact beq_iff_eq.mpr (this.eq q.1 q.2 (by omega) (by omega))
  | succ K => exact beq_iff_eq.mpr ((cg_neg_one h _).mpr (wr_neg h hK))

/-- The sum of the first n-th powers, as the law adds them. -/
def gs (p w : Int) (n : Nat) : Nat → Int
  | 0 => 0
  | i + 1 => (gs p w n i + (w ^ i % p % p) ^ n % p) % p
theorem gs_rng (hp : 0 < p) (w : Int) (n i : Nat) : 0 ≤ gs p w n i ∧ gs p w n i < p := by
  cases i with
  | zero => exact ⟨Int.le_refl _, hp⟩
  | succ i => exact emod_rng hp _
theorem gs_cg (p w : Int) (n i : Nat) : Cg p (gs p w n (i + 1)) (gs p w n i + (w ^ n) ^ i) := by
  refine (Cg.mod p _).trans ((Cg.refl p _).add ((Cg.mod p _).trans ?_))
  refine ((((Cg.mod p _).trans (Cg.mod p _)).pow n)).trans (Cg.of_eq ?_)
  rw [← Int.pow_mul, ← Int.pow_mul, Nat.mul_comm]
theorem gs_geo (p w : Int) (n i : Nat) : Cg p ((w ^ n - 1) * gs p w n i) ((w ^ n) ^ i - 1) := by
  induction i with
  | zero => exact Cg.of_eq (by simp [gs])
  | succ i ih =>
    refine ((Cg.refl p _).mul (gs_cg p w n i)).trans ((Cg.of_eq ?_).trans ((ih.add (Cg.refl p ((w ^ n - 1) * (w ^ n) ^ i))).trans (Cg.of_eq ?_)))
    · exact Int.mul_add _ _ _
    · rw [Int.pow_succ]; grind
theorem gs_ones {w : Int} {n : Nat} (h1 : Cg p (w ^ n) 1) (i : Nat) : Cg p (gs p w n i) i := by
  induction i with
  | zero => exact Cg.refl _ _
  | succ i ih =>
    refine (gs_cg p w n i).trans ((ih.add (h1.pow i)).trans (Cg.of_eq ?_))
    rw [Int.one_pow]; omega
theorem tmod_dvd {m n : Int} : Int.tmod m n = 0 ↔ n ∣ m := ⟨Int.dvd_of_tmod_eq_zero, Int.tmod_eq_zero_of_dvd⟩
theorem gs_sum (h : IsF p g t) {K : Nat} (hK : (K : Int) ≤ t) (j : Int) : gs p (wr p g K) (j % (p - 1)).toNat (2 ^ K) = if Int.tmod j (2 ^ K) = 0 then 2 ^ K % p else 0 := by
  have r := h.rng
  obtain ⟨n, hn⟩ : ∃ n, n = (j % (p - 1)).toNat := ⟨_, rfl⟩
  have q1 := emod_rng (p := p - 1) (by omega) j
  have hn' : (n : Int) = j % (p - 1) := by omega
  have qr := gs_rng (p := p) (by omega) (wr p g K) n (2 ^ K)
  have ho := wr_ord h hK
  have hpz : (2 : Int) ^ K = ((2 ^ K : Nat) : Int) := by simp
  -- 2^K divides p - 1
  obtain ⟨q, _, e, _⟩ := h.odd
  have hdp : ((2 ^ K : Nat) : Int) ∣ p - 1 := by
    have : 2 ^ K ∣ p.toNat - 1 := by
      rw [e]
      exact Nat.dvd_trans (Nat.pow_dvd_pow 2 (by omega)) (Nat.dvd_mul_left _ _)
    have h2 := Int.ofNat_dvd.mpr this
    rwa [show ((p.toNat - 1 : Nat) : Int) = p - 1 by omega] at h2
  have hjn : ((2 ^ K : Nat) : Int) ∣ j ↔ 2 ^ K ∣ n := by
    rw [← Int.ofNat_dvd, hn']
    have e2 := Int.emod_add_mul_ediv j (p - 1)
    have h3 : ((2 ^ K : Nat) : Int) ∣ (p - 1) * (j / (p - 1)) := Int.dvd_trans hdp ⟨_, rfl⟩
    constructor
    · intro h4
      have := Int.dvd_sub h4 h3
      rwa [show j - (p - 1) * (j / (p - 1)) = j % (p - 1) by omega] at this
    · intro h4
      have := Int.dvd_add h4 h3
      rwa [e2] at this
  rw [← hn, hpz]
  by_cases c : 2 ^ K ∣ n
  · rw [if_pos (tmod_dvd.mpr (hjn.mpr c))]
    obtain ⟨m, hm⟩ := c
    have h1 : Cg p (wr p g K ^ n) 1 := by
      rw [hm, Int.pow_mul]
      exact (ho.one.pow m).trans (Cg.of_eq Int.one_pow)
    have h2 := (gs_ones h1 (2 ^ K)).emod_eq
    rwa [Int.emod_eq_of_lt qr.1 qr.2] at h2
  · rw [if_neg (fun hc => c (hjn.mp (tmod_dvd.mp hc)))]
    have h1 : ¬ Cg p (wr p g K ^ n - 1) 0 := fun hc => c (ho.dvd ((Cg.of_eq (by omega)).trans ((hc.add (Cg.refl p 1)).trans (Cg.of_eq (by omega)))))
    have h2 : Cg p ((wr p g K ^ n) ^ 2 ^ K) 1 := by
      rw [← Int.pow_mul, Nat.mul_comm, Int.pow_mul]
      exact (ho.one.pow n).trans (Cg.of_eq Int.one_pow)
    have h3 := (gs_geo p (wr p g K) n (2 ^ K)).trans ((h2.sub (Cg.refl p 1)).trans (Cg.of_eq (show (1 : Int) - 1 = 0 by decide)))
    exact (h.integral h3 h1).eq qr.1 qr.2 (by omega) (by omega)
/-- No root ahead of the last is 1 but the first. -/
theorem rts_ne (h : IsF p g t) {K : Nat} (hK : (K : Int) ≤ t) {i : Nat} (h0 : 0 < i) (hi : i < 2 ^ K) : wr p g K ^ i % p ≠ 1 := by
  intro e
  have r := h.rng
  have := (wr_ord h hK).least i h0 (Cg.of_emod (by rw [e]; exact (Int.emod_eq_of_lt (by omega) (by omega)).symm))
  omega
theorem DrawLog_ok {s : List Int} {i : Int} (h : Cur s i) (c f : Int) : ∃ x i' c', Ev (fun k => spec_l02DrawLog.f k s i c f) (x, i', c') ∧ -1 ≤ x ∧ x ≤ 1000 ∧ Cur s i' := by
  obtain ⟨b, i1, c1, e1, hc1⟩ := Once_ok h c 12
  cases b with
  | true =>
    obtain ⟨x, i2, c2, e2, hx, hc2⟩ := Pick_ok hc1 c1 (l := [(-1), 10, 24, 64, 1000]) (by decide) (by decide)
    have hx' : -1 ≤ x ∧ x ≤ 1000 := by simp at hx; omega
    refine ⟨x, i2, c2, ⟨1, fun k hk => ?_⟩, hx'.1, hx'.2, hc2⟩
    obtain ⟨k, rfl⟩ : ∃ m, k = m + 1 := ⟨k - 1, by omega⟩
    unfold spec_l02DrawLog.f
    simp (disch := omega) only [e1, e2, w64, tmod_pos, tdiv_pos, ↓if_pos, ↓if_neg, if_pos, if_neg, if_true, if_false, Option.bind_some, Bool.false_eq_true, Bool.not_true, Bool.not_false, ↓reduceIte]
  | false =>
    rcases FI.cases f with ⟨p, g, t, hf⟩ | hf
    · have r := hf.isF.rng
      obtain ⟨K, hK⟩ := TwoPower_ok hf
      obtain ⟨x, i2, c2, e2, hx, hx', _, hc2⟩ := Below_ok hc1 c1 (t + 1)
      have := hx' (by omega)
      refine ⟨x, i2, c2, ⟨K + 1, fun k hk => ?_⟩, by omega, by omega, hc2⟩
      obtain ⟨k, rfl⟩ : ∃ m, k = m + 1 := ⟨k - 1, by omega⟩
      unfold spec_l02DrawLog.f
      simp (disch := omega) only [e1, hK, e2, w64, tmod_pos, tdiv_pos, ↓if_pos, ↓if_neg, if_pos, if_neg, if_true, if_false, Option.bind_some, Bool.false_eq_true, Bool.not_true, Bool.not_false, ↓reduceIte]
    · obtain ⟨K, hK⟩ := TwoPower_no hf
      obtain ⟨x, i2, c2, e2, hx, hx', _, hc2⟩ := Below_ok hc1 c1 10
      have := hx' (by omega)
      refine ⟨x, i2, c2, ⟨K + 1, fun k hk => ?_⟩, by omega, by omega, hc2⟩
      obtain ⟨k, rfl⟩ : ∃ m, k = m + 1 := ⟨k - 1, by omega⟩
      unfold spec_l02DrawLog.f
      simp (disch := omega) only [e1, hK, e2, w64, tmod_pos, tdiv_pos, ↓if_pos, ↓if_neg, if_pos, if_neg, if_true, if_false, Option.bind_some, Bool.false_eq_true, Bool.not_true, Bool.not_false, ↓reduceIte]
theorem DrawRootSum_ok {s : List Int} (hs : s.length ≤ 1048576) : ∃ (f q j : Int), Ev (fun k => spec_DrawRootSum.f k s) (f, q, j) ∧ R64 j := by
  obtain ⟨c, K, hK⟩ := New_ok hs
  obtain ⟨f, i1, c1, e1, _, _, hc1⟩ := DrawField_ok (Cur.start hs) c
  obtain ⟨q, i2, c2, ⟨K2, e2⟩, hq, hq', hc2⟩ := DrawLog_ok hc1 c1 f
  obtain ⟨j, i3, c3, e3, hj, hc3⟩ := DrawAny_ok hc2 c2 f
  obtain ⟨b, i4, c4, e4, hc4⟩ := Once_ok hc3 c3 2
  cases b with
  | false =>
    refine ⟨f, q, j, ⟨K + K2 + 1, fun k hk => ?_⟩, hj⟩
    obtain ⟨k, rfl⟩ : ∃ m, k = m + 1 := ⟨k - 1, by omega⟩
    unfold spec_DrawRootSum.f
    simp (disch := omega) only [hK, e1, e2, e3, e4, w64, tmod_pos, tdiv_pos, ↓if_pos, ↓if_neg, if_pos, if_neg, if_true, if_false, Option.bind_some, Bool.false_eq_true, Bool.not_true, Bool.not_false, ↓reduceIte]
  | true =>
    obtain ⟨x, i5, c5, e5, hx, hx', _, hc5⟩ := Below_ok hc4 c4 20
    obtain ⟨y, i6, c6, e6, hy, hy', _, hc6⟩ := Below_ok hc5 c5 10
    have := hx' (by omega)
    have := hy' (by omega)
    refine ⟨f, q, shl .i64 (x - 10) y, ⟨K + K2 + 1, fun k hk => ?_⟩, shl_r64 _ _⟩
    obtain ⟨k, rfl⟩ : ∃ m, k = m + 1 := ⟨k - 1, by omega⟩
    unfold spec_DrawRootSum.f
    simp (disch := omega) only [hK, e1, e2, e3, e4, e5, e6, u64_id, w64, tmod_pos, tdiv_pos, ↓if_pos, ↓if_neg, if_pos, if_neg, if_true, if_false, Option.bind_some, Bool.false_eq_true, Bool.not_true, Bool.not_false, ↓reduceIte]
theorem rt_l0 (h : FI f p g t) {K : Nat} (hK9 : K ≤ 9) (hK : (K : Int) ≤ t) {j : Int} (hj : R64 j) (d : Nat) : ∀ i : Nat, 2 ^ K - i = d → i ≤ 2 ^ K →
    Ev (fun k => laws_FnRootsTurn.l0 k f K j (rts p g K) (gs p (wr p g K) (j % (p - 1)).toNat i) i) true := by
  have r := h.isF.rng
  have hp : 2 ^ K ≤ 2 ^ 9 := Nat.pow_le_pow_right (by decide) hK9
  have hlen := rts_length p g K
  have q := wr_rng (p := p) (by omega) g K
  have hwz := wr_ne h.isF K
  induction d with
  | zero =>
    intro i hd hi
    obtain rfl : i = 2 ^ K := by omega
    obtain ⟨K1, h1⟩ := iRootSum_ok h hK9 hK j
    obtain ⟨K2, h2⟩ := iRootOf_ok h (k := (K : Int)) (by omega) hK
    rw [Int.toNat_natCast] at h2
    obtain ⟨K3, h3⟩ := iIsRoot_ok h hK q.1 q.2
    rw [wr_isr h.isF hK] at h3
    rw [← gs_sum h.isF hK j] at h1
    generalize gs p (wr p g K) (j % (p - 1)).toNat (2 ^ K) = S at *
    refine ⟨K1 + K2 + K3 + 1, fun k hk => ?_⟩
    obtain ⟨k, rfl⟩ : ∃ m, k = m + 1 := ⟨k - 1, by omega⟩
    simp (disch := omega) only [laws_FnRootsTurn.l0, hlen, h1, h2, h3, w64, tmod_pos, tdiv_pos, ↓if_pos, ↓if_neg, if_pos, if_neg, if_true, if_false, Option.bind_some, Bool.false_eq_true, Bool.not_true, Bool.not_false, ↓reduceIte]
  | succ d ih =>
    intro i hd hi
    obtain ⟨K4, h4⟩ := ih (i + 1) (by omega) (by omega)
    have e1 := rts_rd (p := p) (g := g) (k := K) (i := i) (by omega)
    have hz : ¬ Cg p (wr p g K ^ i % p) 0 := fun hc => h.isF.pow_ne hwz i ((Cg.mod p _).symm.trans hc)
    obtain ⟨K1, h1⟩ := Power_ok h hz (e := j) hj.1 hj.2
    have ea := Add_ok h (gs p (wr p g K) (j % (p - 1)).toNat i) ((wr p g K ^ i % p % p) ^ (j % (p - 1)).toNat % p)
    have eg : (gs p (wr p g K) (j % (p - 1)).toNat i + (wr p g K ^ i % p % p) ^ (j % (p - 1)).toNat % p) % p = gs p (wr p g K) (j % (p - 1)).toNat (i + 1) := rfl
    rw [eg] at ea
    generalize (wr p g K ^ i % p % p) ^ (j % (p - 1)).toNat % p = P at *
    generalize gs p (wr p g K) (j % (p - 1)).toNat i = S at *
    generalize gs p (wr p g K) (j % (p - 1)).toNat (i + 1) = S' at *
    by_cases c : i = 0
    · subst c
      refine ⟨K1 + K4 + 2, fun k hk => ?_⟩
      obtain ⟨k, rfl⟩ : ∃ m, k = m + 2 := ⟨k - 2, by omega⟩
      have h5 := h4 k (by omega)
      dsimp only at h5
      simp (disch := omega) only [laws_FnRootsTurn.l0, hlen, laws_FnRootsTurn.j3, e1, h1, ea, w64, tmod_pos, tdiv_pos, ↓if_pos, ↓if_neg, if_pos, if_neg, if_true, if_false, Option.bind_some, Bool.false_eq_true, Bool.not_true, Bool.not_false, ↓reduceIte]
      exact h5
    · have e0 := rts_rd (p := p) (g := g) (k := K) (i := i - 1) (by omega)
      have e2 := rts_rd (p := p) (g := g) (k := K) (i := 1) (by omega)
      have em : wr p g K ^ (i - 1) % p * (wr p g K ^ 1 % p) % p = wr p g K ^ i % p := by
        refine (((Cg.mod p _).mul (Cg.mod p _)).trans (Cg.of_eq ?_)).emod_eq
        rw [← Int.pow_add]
        congr 1
        omega
      have eml := Mul_ok h (wr p g K ^ (i - 1) % p) (wr p g K ^ 1 % p)
      rw [em] at eml
      have hb : (wr p g K ^ i % p == 1) = false := beq_eq_false_iff_ne.2 (rts_ne h.isF hK (by omega) (by omega))
      have ei : ((i : Int) - 1) = ((i - 1 : Nat) : Int) := by omega
      have e2' : rd (rts p g K) 1 = wr p g K ^ 1 % p := e2
      refine ⟨K1 + K4 + 2, fun k hk => ?_⟩
      obtain ⟨k, rfl⟩ : ∃ m, k = m + 2 := ⟨k - 2, by omega⟩
      have h5 := h4 k (by omega)
      dsimp only at h5
      simp (disch := omega) only [laws_FnRootsTurn.l0, hlen, laws_FnRootsTurn.j3, ei, e0, e1, e2', eml, hb, h1, ea, w64, tmod_pos, tdiv_pos, ↓if_pos, ↓if_neg, if_pos, if_neg, if_true, if_false, Option.bind_some, Bool.false_eq_true, Bool.not_true, Bool.not_false, ↓reduceIte]
      exact h5
theorem FnRootsTurn : laws_FnRootsTurn.Pure := by
  intro s _ _ _
  by_cases hl : 1048576 < s.length
  · refine ⟨0, ?_⟩
    unfold laws_FnRootsTurn.f
    simp (disch := omega) only [↓bnd (big_no hl), ↓Option.bind_some, ↓reduceIte, ↓if_pos, ↓if_neg, if_pos, if_neg, w64, Bool.not_true, Bool.not_false, Bool.false_eq_true]
  obtain ⟨f, q, j, ⟨K1, h1⟩, hj⟩ := DrawRootSum_ok (s := s) (by omega)
  have hbig := big_ok (s := s) (by omega)
  have none : ∀ K2, (∀ k ≥ K2, spec_RootOf.f k f q = some (-1)) → ∃ k, laws_FnRootsTurn.f k s = some true := by
    intro K2 h2
    refine ⟨K1 + K2 + 1, ?_⟩
    unfold laws_FnRootsTurn.f
    simp (disch := omega) only [↓bnd (h1 (K1 + K2 + 1) (by omega)), ↓bnd hbig, ↓bnd (h2 (K1 + K2 + 1) (by omega)), laws_FnRootsTurn.j0, ↓Option.bind_some, ↓reduceIte, ↓if_pos, ↓if_neg, if_pos, if_neg, w64, Bool.not_true, Bool.not_false, Bool.false_eq_true]
  rcases FI.cases f with ⟨p, g, t, h⟩ | h
  · have r := h.isF.rng
    by_cases hq : q < 0 ∨ t < q
    · obtain ⟨K2, h2⟩ := sRootOf_no h hq
      exact none K2 h2
    · obtain ⟨K, rfl⟩ : ∃ K : Nat, q = K := ⟨q.toNat, by omega⟩
      have hK : (K : Int) ≤ t := by omega
      obtain ⟨K2, h2⟩ := sRootOf_ok h (k := (K : Int)) (by omega) hK
      rw [Int.toNat_natCast] at h2
      have qw := wr_rng (p := p) (by omega) g K
      by_cases h9 : K ≤ 9
      · have hd : decide ((K : Int) > 9) = false := decide_eq_false (by omega)
        obtain ⟨K3, h3⟩ := iRoots_ok h h9 hK
        obtain ⟨K4, h4⟩ := rt_l0 h h9 hK hj (2 ^ K) 0 (Nat.sub_zero _) (Nat.zero_le _)
        have hlen := rts_length p g K
        have e0 := rts_rd (p := p) (g := g) (k := K) (i := 0) (Nat.two_pow_pos K)
        have e1 : wr p g K ^ 0 % p = 1 := by rw [Int.pow_zero]; exact Int.emod_eq_of_lt (by omega) (by omega)
        have e2 : rd (rts p g K) 0 = 1 := e0.trans e1
        have hp := two_pow_pos K
        have hpz : (2 : Int) ^ K = ((2 ^ K : Nat) : Int) := by simp
        have h5 := h4 (K1 + K2 + K3 + K4) (by omega)
        dsimp only at h5
        refine ⟨K1 + K2 + K3 + K4 + 2, ?_⟩
        unfold laws_FnRootsTurn.f
        simp (disch := omega) only [hbig, h1, h2, hd, laws_FnRootsTurn.j0, laws_FnRootsTurn.j1, h3, u64_id, shl_one, Int.toNat_natCast, hpz, hlen, e2, bne_self_eq_false, w64, tmod_pos, tdiv_pos, ↓if_pos, ↓if_neg, if_pos, if_neg, if_true, if_false, Option.bind_some, Bool.false_eq_true, Bool.not_true, Bool.not_false, ↓reduceIte]
        exact h5
      · have hd : decide ((K : Int) > 9) = true := decide_eq_true (by omega)
        refine ⟨K1 + K2 + 1, ?_⟩
        unfold laws_FnRootsTurn.f
        simp (disch := omega) only [hbig, h1, h2, hd, laws_FnRootsTurn.j0, w64, tmod_pos, tdiv_pos, ↓if_pos, ↓if_neg, if_pos, if_neg, if_true, if_false, Option.bind_some, Bool.false_eq_true, Bool.not_true, Bool.not_false, ↓reduceIte]
  · obtain ⟨K2, h2⟩ := sRootOf_nof h q
    exact none K2 h2
end

end Go.Proofs.Ytginidfoikheaaa.Pure
