/- Plain arithmetic modulo a number, and Fermat's little theorem for a prime: no program in sight. -/
namespace Go.Proofs.Ytigfpkbdkdihbaa.M

/-- a and b differ by a multiple of p. -/
def Cg (p a b : Int) : Prop := ∃ c, a = b + p * c

section
variable {p a b c d : Int}
theorem Cg.refl (p a : Int) : Cg p a a := ⟨0, by simp⟩
theorem Cg.of_eq (h : a = b) : Cg p a b := h ▸ Cg.refl p a
theorem Cg.symm (h : Cg p a b) : Cg p b a := by
  obtain ⟨k, rfl⟩ := h
  exact ⟨-k, by grind⟩
theorem Cg.trans (h : Cg p a b) (h' : Cg p b c) : Cg p a c := by
  obtain ⟨k, rfl⟩ := h
  obtain ⟨l, rfl⟩ := h'
  exact ⟨k + l, by grind⟩
theorem Cg.add (h : Cg p a b) (h' : Cg p c d) : Cg p (a + c) (b + d) := by
  obtain ⟨k, rfl⟩ := h
  obtain ⟨l, rfl⟩ := h'
  exact ⟨k + l, by grind⟩
theorem Cg.sub (h : Cg p a b) (h' : Cg p c d) : Cg p (a - c) (b - d) := by
  obtain ⟨k, rfl⟩ := h
  obtain ⟨l, rfl⟩ := h'
  exact ⟨k - l, by grind⟩
theorem Cg.mul (h : Cg p a b) (h' : Cg p c d) : Cg p (a * c) (b * d) := by
  obtain ⟨k, rfl⟩ := h
  obtain ⟨l, rfl⟩ := h'
  exact ⟨b * l + k * d + p * k * l, by grind⟩
theorem Cg.pow (h : Cg p a b) (n : Nat) : Cg p (a ^ n) (b ^ n) := by
  induction n with
  | zero => rw [Int.pow_zero, Int.pow_zero]; exact Cg.refl _ _
  | succ n ih => rw [Int.pow_succ, Int.pow_succ]; exact ih.mul h
theorem Cg.mod (p a : Int) : Cg p (a % p) a := ⟨-(a / p), by have := Int.emod_add_mul_ediv a p; grind⟩
theorem Cg.emod_eq (h : Cg p a b) : a % p = b % p := by
  obtain ⟨k, rfl⟩ := h
  exact Int.add_mul_emod_self_left b p k
theorem Cg.of_emod (h : a % p = b % p) : Cg p a b := (Cg.mod p a).symm.trans (h ▸ Cg.mod p b)
theorem Cg.eq (h : Cg p a b) (ha : 0 ≤ a) (ha' : a < p) (hb : 0 ≤ b) (hb' : b < p) : a = b := by
  have := h.emod_eq
  rwa [Int.emod_eq_of_lt ha ha', Int.emod_eq_of_lt hb hb'] at this
theorem Cg.self (p : Int) : Cg p p 0 := ⟨1, by simp⟩
theorem Cg.emod_of (h : Cg p a b) (hb : 0 ≤ b) (hb' : b < p) : a % p = b := by
  rw [h.emod_eq, Int.emod_eq_of_lt hb hb']
theorem Cg.dvd (h : Cg p a b) : p ∣ a - b := by
  obtain ⟨k, rfl⟩ := h
  exact ⟨k, by grind⟩
theorem Cg.of_dvd (h : p ∣ a - b) : Cg p a b := by
  obtain ⟨k, hk⟩ := h
  exact ⟨k, by grind⟩
end

/-! ### primes -/
structure Prm (p : Nat) : Prop where
  two : 2 ≤ p
  out : ∀ d, d ∣ p → d = 1 ∨ d = p

/-- No number from lo on, 2^n of them, divides p. -/
def nodiv (p : Nat) : Nat → Nat → Bool
  | 0, lo => p % lo != 0
  | n + 1, lo => nodiv p n lo && nodiv p n (lo + 2 ^ n)
theorem nodiv_out (p n : Nat) : ∀ lo, nodiv p n lo = true → ∀ d, lo ≤ d → d < lo + 2 ^ n → p % d ≠ 0 := by
  induction n with
  | zero =>
    intro lo h d h1 h2
    have : d = lo := by simp at h2; omega
    subst this
    simpa [nodiv] using h
  | succ n ih =>
    intro lo h d h1 h2
    simp only [nodiv, Bool.and_eq_true] at h
    rw [Nat.pow_succ] at h2
    by_cases hd : d < lo + 2 ^ n
    · exact ih lo h.1 d h1 hd
    · exact ih _ h.2 d (by omega) (by omega)
theorem Prm.of_nodiv {p n : Nat} (h2 : 2 ≤ p) (hn : p < (2 + 2 ^ n) * (2 + 2 ^ n)) (h : nodiv p n 2 = true) (hb : 2 + 2 ^ n ≤ p) : Prm p := by
  refine ⟨h2, fun d hd => ?_⟩
  obtain ⟨e, rfl⟩ := hd
  by_cases h1 : d = 1
  · exact .inl h1
  by_cases he : e = 1
  · exact .inr (by simp [he])
  exfalso
  have hd0 : d ≠ 0 := by rintro rfl; simp at h2
  have he0 : e ≠ 0 := by rintro rfl; simp at h2
  have key : ∀ x y : Nat, 2 ≤ x → 2 ≤ y → x * y = d * e → x ≤ y → False := by
    intro x y hx hy hxy hle
    have hlt : x < 2 + 2 ^ n := by
      rcases Nat.lt_or_ge x (2 + 2 ^ n) with h' | h'
      · exact h'
      · exfalso
        have := Nat.mul_le_mul h' (Nat.le_trans h' hle)
        rw [hxy] at this
        omega
    have := nodiv_out _ n 2 h x hx hlt
    rw [← hxy] at this
    simp at this
  rcases Nat.le_total d e with hle | hle
  · exact key d e (by omega) (by omega) rfl hle
  · exact key e d (by omega) (by omega) (Nat.mul_comm _ _) hle
theorem Prm.coprime {p a : Nat} (hp : Prm p) (h : ¬ p ∣ a) : Nat.Coprime p a := by
  rcases hp.out _ (Nat.gcd_dvd_left p a) with h1 | h1
  · exact h1
  · exact absurd (h1 ▸ Nat.gcd_dvd_right p a) h
theorem Prm.dvd_mul {p a b : Nat} (hp : Prm p) (h : p ∣ a * b) (ha : ¬ p ∣ a) : p ∣ b := (hp.coprime ha).dvd_of_dvd_mul_left h

/-! ### binomials -/
def ch : Nat → Nat → Nat
  | _, 0 => 1
  | 0, _ + 1 => 0
  | n + 1, k + 1 => ch n k + ch n (k + 1)
theorem ch_zero (n : Nat) : ch n 0 = 1 := by cases n <;> rfl
theorem ch_gt (n : Nat) : ∀ k, n < k → ch n k = 0 := by
  induction n with
  | zero => intro k h; obtain ⟨k, rfl⟩ : ∃ m, k = m + 1 := ⟨k - 1, by omega⟩; rfl
  | succ n ih =>
    intro k h
    obtain ⟨k, rfl⟩ : ∃ m, k = m + 1 := ⟨k - 1, by omega⟩
    simp only [ch]
    rw [ih k (by omega), ih (k + 1) (by omega)]
theorem ch_self (n : Nat) : ch n n = 1 := by
  induction n with
  | zero => rfl
  | succ n ih => simp only [ch]; rw [ih, ch_gt n (n + 1) (by omega)]
theorem ch_absorb (n : Nat) : ∀ k, (k + 1) * ch (n + 1) (k + 1) = (n + 1) * ch n k := by
  induction n with
  | zero =>
    intro k
    cases k with
    | zero => rfl
    | succ k => simp [ch]
  | succ n ih =>
    intro k
    cases k with
    | zero =>
      have := ih 0
      simp only [ch, ch_zero] at this ⊢
      simp at this ⊢
      omega
    | succ k =>
      have h1 := ih k
      have h2 := ih (k + 1)
      have e1 : ch (n + 1 + 1) (k + 1 + 1) = ch (n + 1) (k + 1) + ch (n + 1) (k + 1 + 1) := rfl
      have e2 : ch (n + 1) (k + 1) = ch n k + ch n (k + 1) := rfl
      rw [e1]
      have : (k + 1 + 1) * (ch (n + 1) (k + 1) + ch (n + 1) (k + 1 + 1)) = (k + 1) * ch (n + 1) (k + 1) + ch (n + 1) (k + 1) + (k + 1 + 1) * ch (n + 1) (k + 1 + 1) := by grind
      rw [this, h1, h2]
      rw [e2]
      grind
/-- The first m terms of (1 + x)^n. -/
def bs (n : Nat) (x : Int) : Nat → Int
  | 0 => 0
  | m + 1 => bs n x m + (ch n m : Int) * x ^ m
theorem bs_succ (n : Nat) (x : Int) (m : Nat) : bs (n + 1) x (m + 1) = bs n x (m + 1) + x * bs n x m := by
  induction m with
  | zero => simp [bs, ch_zero]
  | succ m ih =>
    have e : (ch (n + 1) (m + 1) : Int) = (ch n m : Int) + (ch n (m + 1) : Int) := by simp [ch]
    have h1 : bs (n + 1) x (m + 1 + 1) = bs (n + 1) x (m + 1) + (ch (n + 1) (m + 1) : Int) * x ^ (m + 1) := rfl
    have h2 : bs n x (m + 1 + 1) = bs n x (m + 1) + (ch n (m + 1) : Int) * x ^ (m + 1) := rfl
    have h3 : bs n x (m + 1) = bs n x m + (ch n m : Int) * x ^ m := rfl
    rw [h1, ih, e, h2, Int.pow_succ]
    grind
theorem bs_all (n : Nat) (x : Int) : bs n x (n + 1) = (x + 1) ^ n := by
  induction n with
  | zero => simp [bs, ch]
  | succ n ih =>
    have h1 : bs n x (n + 1 + 1) = bs n x (n + 1) + (ch n (n + 1) : Int) * x ^ (n + 1) := rfl
    rw [bs_succ, h1, ch_gt n (n + 1) (by omega), ih, Int.pow_succ]
    grind
theorem ch_prime {p : Nat} (hp : Prm p) (k : Nat) (h0 : 0 < k) (h1 : k < p) : p ∣ ch p k := by
  obtain ⟨k, rfl⟩ : ∃ m, k = m + 1 := ⟨k - 1, by omega⟩
  obtain ⟨q, rfl⟩ : ∃ m, p = m + 1 := ⟨p - 1, by omega⟩
  have := ch_absorb q k
  refine hp.dvd_mul (a := k + 1) ?_ (fun h => ?_)
  · rw [this]; exact Nat.dvd_mul_right _ _
  · have := Nat.le_of_dvd (by omega) h
    omega
theorem bs_prime {p : Nat} (hp : Prm p) (x : Int) (m : Nat) (hm : m < p) : Cg p (bs p x (m + 1)) 1 := by
  induction m with
  | zero => exact Cg.of_eq (by simp [bs, ch_zero])
  | succ m ih =>
    have h1 : bs p x (m + 1 + 1) = bs p x (m + 1) + (ch p (m + 1) : Int) * x ^ (m + 1) := rfl
    rw [h1]
    obtain ⟨c, hc⟩ := ch_prime hp (m + 1) (by omega) hm
    have h2 : Cg p ((ch p (m + 1) : Int) * x ^ (m + 1)) 0 := ⟨c * x ^ (m + 1), by rw [hc, Int.natCast_mul]; grind⟩
    simpa using (ih (by omega)).add h2
theorem frob {p : Nat} (hp : Prm p) (x : Int) : Cg p ((x + 1) ^ p) (x ^ p + 1) := by
  rw [← bs_all]
  have h2 := hp.two
  have h1 : bs p x (p + 1) = bs p x p + (ch p p : Int) * x ^ p := rfl
  rw [h1, ch_self]
  obtain ⟨q, rfl⟩ : ∃ m, p = m + 1 := ⟨p - 1, by omega⟩
  have := (bs_prime hp x q (by omega)).add (Cg.refl ((q + 1 : Nat) : Int) ((1 : Nat) * x ^ (q + 1)))
  refine this.trans (Cg.of_eq ?_)
  simp
  grind
theorem flt_nat {p : Nat} (hp : Prm p) (a : Nat) : Cg p ((a : Int) ^ p) a := by
  induction a with
  | zero =>
    have := hp.two
    obtain ⟨q, rfl⟩ : ∃ m, p = m + 1 := ⟨p - 1, by omega⟩
    exact Cg.of_eq (by simp [Int.pow_succ])
  | succ a ih =>
    have h := (frob hp (a : Int)).trans (ih.add (Cg.refl _ 1))
    simpa using h
theorem flt {p : Nat} (hp : Prm p) (a : Int) : Cg p (a ^ p) a := by
  have hp0 : (p : Int) ≠ 0 := by have := hp.two; omega
  have h0 := Int.emod_nonneg a hp0
  have h := flt_nat hp (a % p).toNat
  rw [Int.toNat_of_nonneg h0] at h
  exact (((Cg.mod p a).pow p).symm.trans h).trans (Cg.mod p a)
theorem flt1 {p : Nat} (hp : Prm p) (a : Int) (ha : ¬ Cg p a 0) : Cg p (a ^ (p - 1)) 1 := by
  obtain ⟨q, rfl⟩ : ∃ m, p = m + 1 := ⟨p - 1, by have := hp.two; omega⟩
  have h := (flt hp a).dvd
  rw [Int.pow_succ] at h
  have h2 : ((q + 1 : Nat) : Int) ∣ (a ^ q - 1) * a := by
    have e : (a ^ q - 1) * a = a ^ q * a - a := by grind
    rw [e]; exact h
  have h3 : (q + 1) ∣ ((a ^ q - 1).natAbs * a.natAbs) := by
    rw [← Int.natAbs_mul]
    exact Int.ofNat_dvd_left.mp h2
  have hna : ¬ (q + 1) ∣ a.natAbs := fun h => ha (Cg.of_dvd (by rw [Int.sub_zero]; exact Int.ofNat_dvd_left.mpr h))
  have h4 := hp.dvd_mul (by rw [Nat.mul_comm]; exact h3) hna
  exact Cg.of_dvd (Int.ofNat_dvd_left.mpr h4)

end Go.Proofs.Ytigfpkbdkdihbaa.M
