import Derived.Test.YtigfpkbdkdihbaaZFnDivBackG
/- What the division of polynomials comes to, of the program and of the reference. -/
import Derived.Test.YtigfpkbdkdihbaaZFnDivBackMa
import Derived.Test.YtigfpkbdkdihbaaZFnDivBackMb
import Derived.Test.YtigfpkbdkdihbaaZFnDivBackMc
import Derived.Test.YtigfpkbdkdihbaaZFnDivBackMd
import Derived.Test.YtigfpkbdkdihbaaZFnDivBackMh
import Derived.Test.YtigfpkbdkdihbaaZFnDivBackMr
import Derived.Test.YtigfpkbdkdihbaaZFnDivBackMx
import Derived.Test.YtigfpkbdkdihbaaZFnDivBackMy
import Derived.Test.YtigfpkbdkdihbaaZFnDivBackWWords
import Derived.Test.YtigfpkbdkdihbaaZFnDivBackWMore
import Derived.Test.YtigfpkbdkdihbaaZFnDivBack2
import Derived.Test.YtigfpkbdkdihbaaZFnDivBack1
import Derived.Test.YtigfpkbdkdihbaaZFnDivBack3
import Derived.Test.YtigfpkbdkdihbaaZFnDivBack0
namespace Go.Proofs.Ytigfpkbdkdihbaa.M
open Go.RowKit Go.Proofs.Ytigfpkbdkdihbaa.P Go.Proofs.YtigfpkbdkdihbaaW.PrintWords Go.Proofs.YtigfpkbdkdihbaaW.PrintLast Go.Proofs.YtigfpkbdkdihbaaW.PrintMore
set_option linter.unusedVariables false
set_option linter.unusedSimpArgs false

/-- The quotient's coefficient at place i. -/
def dc (p : Int) (b : List Int) (v : Int) (x : List Int) (i : Nat) : Int := rd x ((i + b.length - 1 : Nat) : Int) * v % p
/-- One step: what is left when c times b, i places up, is taken away. -/
def ds1 (p : Int) (b : List Int) (c : Int) (x : List Int) (i : Nat) : List Int :=
  mk x.length fun q => if i ≤ q ∧ q < i + b.length then (rd x (q : Int) - c * rd b ((q - i : Nat) : Int) % p) % p else rd x (q : Int)
def dstep (p : Int) (b : List Int) (v : Int) (x : List Int) (i : Nat) : List Int := ds1 p b (dc p b v x i) x i
def drun (p : Int) (b : List Int) (v : Int) : Nat → List Int → List Int
  | 0, x => x
  | i + 1, x => drun p b v i (dstep p b v x i)
def dquo (p : Int) (b : List Int) (v : Int) : Nat → List Int → List Int
  | 0, _ => []
  | i + 1, x => dquo p b v i (dstep p b v x i) ++ [dc p b v x i]
theorem ds1_length (p : Int) (b : List Int) (c : Int) (x : List Int) (i : Nat) : (ds1 p b c x i).length = x.length := mk_length _ _
theorem dstep_length (p : Int) (b : List Int) (v : Int) (x : List Int) (i : Nat) : (dstep p b v x i).length = x.length := mk_length _ _
theorem dquo_length (p : Int) (b : List Int) (v : Int) (n : Nat) : ∀ x, (dquo p b v n x).length = n := by
  induction n with
  | zero => intro x; rfl
  | succ n ih => intro x; rw [dquo, List.length_append, ih]; rfl
theorem ds1_rd (p : Int) (b : List Int) (c : Int) (x : List Int) (i q : Nat) (hq : q < x.length) : rd (ds1 p b c x i) (q : Int) = if i ≤ q ∧ q < i + b.length then (rd x (q : Int) - c * rd b ((q - i : Nat) : Int) % p) % p else rd x (q : Int) := by
  unfold ds1
  rw [mk_rd, if_pos hq]
theorem ds1_els {p : Int} (hp : 0 < p) (b : List Int) (c : Int) {x : List Int} (hx : els p x = true) (i : Nat) : els p (ds1 p b c x i) = true := by
  refine mk_els fun q hq => ?_
  split
  · exact emod_rng hp _
  · exact els_rd' hp hx _
theorem dc_rng {p : Int} (hp : 0 < p) (b : List Int) (v : Int) (x : List Int) (i : Nat) : 0 ≤ dc p b v x i ∧ dc p b v x i < p := emod_rng hp _
theorem ds1_zero {p : Int} (hp : 0 < p) (b : List Int) {x : List Int} (hx : els p x = true) (i : Nat) : ds1 p b 0 x i = x := by
  apply ext_len (ds1_length _ _ _ _ _)
  intro q
  by_cases hq : q < x.length
  · have r := els_rd' hp hx (q : Int)
    rw [ds1_rd _ _ _ _ _ _ hq]
    split
    · rw [Int.zero_mul, Int.zero_emod, Int.sub_zero, Int.emod_eq_of_lt r.1 r.2]
    · rfl
  · rw [rd_ge (by rw [ds1_length]; omega), rd_ge (by omega)]
theorem drun_els {p : Int} (hp : 0 < p) (b : List Int) (v : Int) (n : Nat) : ∀ x, els p x = true → els p (drun p b v n x) = true := by
  induction n with
  | zero => intro x hx; exact hx
  | succ n ih => intro x hx; exact ih _ (ds1_els hp _ _ hx _)
theorem dquo_els {p : Int} (hp : 0 < p) (b : List Int) (v : Int) (n : Nat) : ∀ x, els p (dquo p b v n x) = true := by
  induction n with
  | zero => intro x; rfl
  | succ n ih =>
    intro x
    have r := dc_rng hp b v x n
    rw [dquo, els_append, ih]
    simp [els, r.1, r.2]
/-- v is the inverse of b's last number: what stands from b's degree on comes to nothing. -/
theorem drun_zero {p : Int} (hp : 1 < p) {b : List Int} {v : Int} (hb : 1 ≤ b.length) (hv : Cg p (v * rd b ((b.length - 1 : Nat) : Int)) 1) (n : Nat) : ∀ x, n + b.length - 1 ≤ x.length → (∀ q : Nat, n + b.length - 1 ≤ q → rd x (q : Int) = 0) →
    ∀ q : Nat, b.length - 1 ≤ q → rd (drun p b v n x) (q : Int) = 0 := by
  induction n with
  | zero => intro x hl hx q hq; exact hx q (by omega)
  | succ n ih =>
    intro x hl hx
    refine ih _ (by rw [dstep_length]; omega) fun q hq => ?_
    by_cases hqx : q < x.length
    · rw [dstep, ds1_rd _ _ _ _ _ _ hqx]
      by_cases c : q < n + b.length
      · obtain rfl : q = n + b.length - 1 := by omega
        rw [if_pos (by omega), show n + b.length - 1 - n = b.length - 1 by omega]
        have h2 : Cg p (dc p b v x n * rd b ((b.length - 1 : Nat) : Int) % p) (rd x ((n + b.length - 1 : Nat) : Int)) := by
          refine (Cg.mod p _).trans (((Cg.mod p _).mul (Cg.refl p _)).trans ?_)
          rw [Int.mul_assoc]
          exact ((Cg.refl p (rd x ((n + b.length - 1 : Nat) : Int))).mul hv).trans (Cg.of_eq (Int.mul_one _))
        have h3 := (Cg.refl p (rd x ((n + b.length - 1 : Nat) : Int))).sub h2
        rw [Int.sub_self] at h3
        exact h3.emod_of (by omega) (by omega)
      · rw [if_neg (by omega), hx q (by omega)]
    · exact rd_ge (by rw [dstep_length]; omega)
section
variable {f p g t : Int}
/-- What the list holds while c times b is taken away: j places are done. -/
def dvI (p : Int) (b : List Int) (c : Int) (x y : List Int) (i j : Nat) : Prop := y.length = x.length ∧ ∀ q : Nat, q < x.length → rd y (q : Int) = if i ≤ q ∧ q < i + j then (rd x (q : Int) - c * rd b ((q - i : Nat) : Int) % p) % p else rd x (q : Int)
theorem dvI_end {b : List Int} {c : Int} {x y : List Int} {i : Nat} (h : dvI p b c x y i b.length) : y = ds1 p b c x i := eq_mk' h.1 h.2
theorem dvI_step {b : List Int} {c : Int} {x y : List Int} {i j : Nat} (hi : i + j < x.length) (h : dvI p b c x y i j) : dvI p b c x (y.set (i + j) ((rd x ((i + j : Nat) : Int) - c * rd b (j : Int) % p) % p)) i (j + 1) := by
  obtain ⟨h1, h2⟩ := h
  refine ⟨by rw [List.length_set, h1], fun q hq => ?_⟩
  rw [rd_set _ _ _ _ (by omega)]
  by_cases e : i + j = q
  · subst e; rw [if_pos rfl, if_pos (by omega), show i + j - i = j by omega]
  · rw [if_neg e, h2 q hq]
    by_cases c2 : i ≤ q ∧ q < i + j
    · rw [if_pos c2, if_pos (by omega)]
    · rw [if_neg c2, if_neg (by omega)]
theorem rep_set (n : Nat) (rest : List Int) (c : Int) : (List.replicate (n + 1) 0 ++ rest).set n c = List.replicate n 0 ++ ([c] ++ rest) := by
  rw [List.replicate_succ', List.append_assoc, List.set_append_right _ _ (by simp)]
  simp
theorem divMod_l1 (h : IsF p g t) (b : List Int) (R : List Int × List Int) (hb : els p b = true) (hlb : b.length ≤ 4096) (x y9 : List Int) (v c : Int) (hc : 0 ≤ c ∧ c < p) (i m : Nat) (hx : els p x = true) (hlx : x.length ≤ 4096) (hi : i + b.length ≤ x.length)
    (F : ∀ k, m ≤ k → impl_field_divMod.l0 k b (ds1 p b c x i) y9 v ((i : Int) - 1) p g t = some R) (d : Nat) :
    ∀ (k j : Nat) (y : List Int), m + d < k → b.length - j = d → j ≤ b.length → dvI p b c x y i j → impl_field_divMod.l1 k b y y9 v i c b b.length j p g t = some R := by
  have r := h.rng
  induction d with
  | zero =>
    intro k j y hk hd hj hy
    obtain ⟨k, rfl⟩ : ∃ m, k = m + 1 := ⟨k - 1, by omega⟩
    obtain rfl : j = b.length := by omega
    rw [dvI_end hy]
    simp (disch := omega) only [impl_field_divMod.l1, w64, tmod_pos, tdiv_pos, ↓if_pos, ↓if_neg, if_pos, if_neg, if_true, if_false, Option.bind_some, Bool.false_eq_true, Bool.not_true, Bool.not_false, ↓reduceIte]
    exact F k (by omega)
  | succ d ih =>
    intro k j y hk hd hj hy
    obtain ⟨k, rfl⟩ : ∃ m, k = m + 1 := ⟨k - 1, by omega⟩
    have hyl := hy.1
    have q1 := els_rd hb (i := (j : Int)) (by omega) (by omega)
    have q2 := els_rd hx (i := ((i + j : Nat) : Int)) (by omega) (by omega)
    have q3 := emod_rng (p := p) (by omega) (c * rd b (j : Int))
    have e2 : rd y ((i + j : Nat) : Int) = rd x ((i + j : Nat) : Int) := by rw [hy.2 _ (by omega), if_neg (by omega)]
    have e5 := ih k (j + 1) _ (by omega) (by omega) (by omega) (dvI_step (by omega) hy)
    have ec : ((i + j : Nat) : Int) = (i : Int) + j := by omega
    rw [ec] at q2 e2 e5
    simp (disch := omega) only [impl_field_divMod.l1, w64, if_pos, e2, mul_ok h hc.1 hc.2 q1.1 q1.2, sub_ok h q2.1 q2.2 q3.1 q3.2, Option.bind_some]
    rw [show ((i : Int) + j).toNat = i + j by omega]
    exact e5
theorem divMod_l0 (h : IsF p g t) (b : List Int) (hb : els p b = true) (hlb : 1 ≤ b.length ∧ b.length ≤ 4096) (v : Int) (hv : 0 ≤ v ∧ v < p) (n : Nat) :
    ∃ K, ∀ (k : Nat) (x rest : List Int), K < k → els p x = true → x.length ≤ 4096 → n + b.length - 1 ≤ x.length → n + rest.length ≤ 8192 →
      impl_field_divMod.l0 k b x (List.replicate n 0 ++ rest) v ((n : Int) - 1) p g t = some (dquo p b v n x ++ rest, cut ((drun p b v n x).take (b.length - 1))) := by
  have r := h.rng
  induction n with
  | zero =>
    refine ⟨10000, fun k x rest hk hx hlx hl hr => ?_⟩
    obtain ⟨k, rfl⟩ : ∃ m, k = m + 1 := ⟨k - 1, by omega⟩
    have hcut : impl_trimmed.f k (x.take (b.length - 1)) = some (cut (x.take (b.length - 1))) := by
      have e := trimmed_l0 (x.take (b.length - 1)) (by rw [List.length_take]; omega) (x.take (b.length - 1)).length k (by rw [List.length_take]; omega) (Nat.le_refl _)
      rw [List.take_length] at e
      exact e
    have e2 : ((b.length : Int) - 1).toNat = b.length - 1 := by omega
    simp (disch := omega) only [impl_field_divMod.l0, e2, hcut, w64, tmod_pos, tdiv_pos, ↓if_pos, ↓if_neg, if_pos, if_neg, if_true, if_false, Option.bind_some, Bool.false_eq_true, Bool.not_true, Bool.not_false, ↓reduceIte]
    rfl
  | succ n ih =>
    obtain ⟨K, ih⟩ := ih
    refine ⟨K + 10000, fun k x rest hk hx hlx hl hr => ?_⟩
    obtain ⟨k, rfl⟩ : ∃ m, k = m + 1 := ⟨k - 1, by omega⟩
    have q1 := els_rd hx (i := ((n + b.length - 1 : Nat) : Int)) (by omega) (by omega)
    have qc := dc_rng (p := p) (by omega) b v x n
    have e1 : (((n + 1 : Nat) : Int) - 1) = (n : Int) := by omega
    have e3 : ((n : Int) + b.length - 1) = ((n + b.length - 1 : Nat) : Int) := by omega
    have e4 : (List.replicate (n + 1) (0 : Int) ++ rest).length = n + 1 + rest.length := by rw [List.length_append, List.length_replicate]
    have q2 := mul_ok h q1.1 q1.2 hv.1 hv.2
    rw [show rd x ((n + b.length - 1 : Nat) : Int) * v % p = dc p b v x n from rfl] at q2
    have key : ∀ k', K + 1 ≤ k' → impl_field_divMod.l0 k' b (dstep p b v x n) (List.replicate n 0 ++ ([dc p b v x n] ++ rest)) v ((n : Int) - 1) p g t = some (dquo p b v (n + 1) x ++ rest, cut ((drun p b v (n + 1) x).take (b.length - 1))) := by
      intro k' hk'
      have e := ih k' (dstep p b v x n) ([dc p b v x n] ++ rest) (by omega) (ds1_els (by omega) _ _ hx _) (by rw [dstep_length]; omega) (by rw [dstep_length]; omega) (by rw [List.length_append]; simp only [List.length_singleton]; omega)
      rw [e, dquo, drun, List.append_assoc]
    rw [e1]
    by_cases c0 : dc p b v x n = 0
    · have e5 := key k (by omega)
      rw [dstep, c0, ds1_zero (by omega) b hx] at e5
      simp (disch := omega) only [impl_field_divMod.l0, w64, e3, q2, e4, if_pos, Option.bind_some, Int.toNat_natCast, rep_set, c0]
      exact e5
    · simp (disch := omega) only [impl_field_divMod.l0, w64, e3, q2, e4, if_pos, if_neg, Option.bind_some, Int.toNat_natCast, rep_set]
      exact divMod_l1 h b _ hb hlb.2 x _ v _ qc n (K + 1) hx hlx (by omega) key b.length k 0 x (by omega) (by omega) (by omega) ⟨rfl, fun q hq => by rw [if_neg (by omega)]⟩
/-- The inverse of b's last number. -/
def iv1 (p : Int) (b : List Int) : Int := rd b ((b.length - 1 : Nat) : Int) ^ (p.toNat - 2) % p
/-- The quotient and what is left, for a divisor that is not empty. -/
def dm (p : Int) (a b : List Int) : List Int × List Int :=
  if a.length < b.length then ([], a) else (dquo p b (iv1 p b) (a.length - b.length + 1) a, cut ((drun p b (iv1 p b) (a.length - b.length + 1) a).take (b.length - 1)))
theorem divMod_ok (h : IsF p g t) {a b : List Int} (hla : a.length ≤ 4096) (hlb : 1 ≤ b.length ∧ b.length ≤ 4096) (ha : els p a = true) (hb : els p b = true) : Ev (fun k => impl_field_divMod.f k p g t a b) (dm p a b) := by
  have r := h.rng
  have q1 := els_rd hb (i := ((b.length - 1 : Nat) : Int)) (by omega) (by omega)
  obtain ⟨K1, h1⟩ := inverse_ok h q1.1 q1.2
  obtain ⟨K2, h2⟩ := divMod_l0 h b hb hlb (iv1 p b) (emod_rng (by omega) _) (a.length - b.length + 1)
  refine ⟨K1 + K2 + 1, fun k hk => ?_⟩
  unfold impl_field_divMod.f dm
  by_cases c : a.length < b.length
  · simp (disch := omega) only [List.length_nil, List.nil_append, w64, tmod_pos, tdiv_pos, ↓if_pos, ↓if_neg, if_pos, if_neg, if_true, if_false, Option.bind_some, Bool.false_eq_true, Bool.not_true, Bool.not_false, ↓reduceIte]
  · have e1 : ((a.length : Int) - b.length + 1).toNat = a.length - b.length + 1 := by omega
    have e2 : ((b.length : Int) - 1) = ((b.length - 1 : Nat) : Int) := by omega
    have h3 := h2 k a [] (by omega) ha hla (by omega) (by simp; omega)
    rw [List.append_nil, List.append_nil] at h3
    have h4 := h1 k (by omega)
    dsimp only at h4
    simp (disch := omega) only [List.length_nil, List.nil_append, e1, e2, List.length_replicate, h4, w64, tmod_pos, tdiv_pos, ↓if_pos, ↓if_neg, if_pos, if_neg, if_true, if_false, Option.bind_some, Bool.false_eq_true, Bool.not_true, Bool.not_false, ↓reduceIte]
    exact h3
theorem iv1_cg (h : IsF p g t) {b : List Int} (hb : pk p b = true) (h0 : 1 ≤ b.length) : Cg p (iv1 p b * rd b ((b.length - 1 : Nat) : Int)) 1 := by
  have r := h.rng
  have q1 := els_rd (pk_els hb) (i := ((b.length - 1 : Nat) : Int)) (by omega) (by omega)
  have n1 : rd b ((b.length - 1 : Nat) : Int) ≠ 0 := by
    rcases pk_top hb with c | c
    · omega
    · rw [show ((b.length : Int) - 1) = ((b.length - 1 : Nat) : Int) by omega] at c; exact c
  have hn : ¬ Cg p (rd b ((b.length - 1 : Nat) : Int)) 0 := fun c => n1 ((h.cg0 q1.1 q1.2).1 c)
  refine ((Cg.mod p _).mul (Cg.refl p _)).trans ?_
  rw [← Int.pow_succ, show (p.toNat - 2).succ = p.toNat - 1 by omega]
  exact h.flt hn
theorem iv1_ne (h : IsF p g t) {b : List Int} (hb : pk p b = true) (h0 : 1 ≤ b.length) : ¬ Cg p (iv1 p b) 0 := fun c => by
  have r := h.rng
  have e := (c.mul (Cg.refl p (rd b ((b.length - 1 : Nat) : Int)))).symm.trans (iv1_cg h hb h0)
  rw [Int.zero_mul] at e
  have := e.emod_eq
  rw [Int.zero_emod, Int.emod_eq_of_lt (by omega) (by omega)] at this
  omega
/-- The quotient's first coefficient is not 0. -/
theorem dquo_top (h : IsF p g t) {a b : List Int} (ea : els p a = true) (ta : top a) (hb : pk p b = true) (h0 : 1 ≤ b.length) (hl : b.length ≤ a.length) : top (dquo p b (iv1 p b) (a.length - b.length + 1) a) := by
  have r := h.rng
  refine .inr ?_
  rw [dquo_length, show (((a.length - b.length + 1 : Nat) : Int) - 1) = ((a.length - b.length : Nat) : Int) by omega, dquo, rd_append, dquo_length, if_neg (by omega), Nat.sub_self]
  show dc p b (iv1 p b) a (a.length - b.length) ≠ 0
  unfold dc
  rw [show a.length - b.length + b.length - 1 = a.length - 1 by omega]
  have q1 := els_rd ea (i := ((a.length - 1 : Nat) : Int)) (by omega) (by omega)
  have n1 : rd a ((a.length - 1 : Nat) : Int) ≠ 0 := by
    rcases ta with c | c
    · omega
    · rw [show ((a.length : Int) - 1) = ((a.length - 1 : Nat) : Int) by omega] at c; exact c
  intro hz
  have z : Cg p (rd a ((a.length - 1 : Nat) : Int) * iv1 p b) 0 := Cg.of_emod (by rw [hz]; simp)
  exact iv1_ne h hb h0 (h.integral z fun c => n1 ((h.cg0 q1.1 q1.2).1 c))
theorem dm_rem {p : Int} (hp : 0 < p) {a b : List Int} (ea : els p a = true) (ta : top a) (h0 : 1 ≤ b.length) : (dm p a b).2.length < b.length ∧ els p (dm p a b).2 = true ∧ top (dm p a b).2 := by
  unfold dm
  split
  · exact ⟨by omega, ea, ta⟩
  · refine ⟨?_, cut_els ?_, cut_top _⟩
    · have := cut_len ((drun p b (iv1 p b) (a.length - b.length + 1) a).take (b.length - 1))
      rw [List.length_take] at this
      show (cut _).length < _
      omega
    · rw [els_iff]
      exact fun x hx => els_iff.1 (drun_els hp b (iv1 p b) (a.length - b.length + 1) a ea) x (List.mem_of_mem_take hx)
theorem dm_rem_pk {p : Int} (hp : 0 < p) {a b : List Int} (ea : els p a = true) (ta : top a) (h0 : 1 ≤ b.length) (hb : b.length ≤ 400) : pk p (dm p a b).2 = true := by
  have h := dm_rem hp ea ta h0
  exact pk_of (by omega) h.2.1 h.2.2
/-- What DivMod answers for two polynomials. -/
def dmo (p : Int) (a b : List Int) : List Int × List Int × Bool := if b.length = 0 then ([], [], false) else ((dm p a b).1, (dm p a b).2, true)
theorem iDivP_ok (h : FI f p g t) {a b : List Int} (ha : pk p a = true) (hb : pk p b = true) : Ev (fun k => impl_DivMod.f k f a b) (dmo p a b) := by
  have hla := pk_len ha
  have hlb := pk_len hb
  obtain ⟨K1, h1⟩ := polyField2 h (a := a) (b := b) (by omega) (by omega)
  rw [if_pos ⟨ha, hb⟩] at h1
  by_cases c : b.length = 0
  · refine ⟨K1, fun k hk => ?_⟩
    unfold impl_DivMod.f dmo
    simp (disch := omega) only [h1, w64, tmod_pos, tdiv_pos, ↓if_pos, ↓if_neg, if_pos, if_neg, if_true, if_false, Option.bind_some, Bool.false_eq_true, Bool.not_true, Bool.not_false, ↓reduceIte]
  · obtain ⟨K2, h2⟩ := divMod_ok h.isF (a := a) (b := b) (by omega) (by omega) (pk_els ha) (pk_els hb)
    refine ⟨K1 + K2, fun k hk => ?_⟩
    unfold impl_DivMod.f dmo
    simp (disch := omega) only [h1, h2, w64, tmod_pos, tdiv_pos, ↓if_pos, ↓if_neg, if_pos, if_neg, if_true, if_false, Option.bind_some, Bool.false_eq_true, Bool.not_true, Bool.not_false, ↓reduceIte]
end

end Go.Proofs.Ytigfpkbdkdihbaa.M
