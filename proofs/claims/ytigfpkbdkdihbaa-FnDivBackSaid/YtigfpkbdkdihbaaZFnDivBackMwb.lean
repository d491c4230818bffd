import Derived.Test.YtigfpkbdkdihbaaZFnDivBackG
/- The quotient times the divisor plus what is left is the dividend. -/
import Derived.Test.YtigfpkbdkdihbaaZFnDivBackMa
import Derived.Test.YtigfpkbdkdihbaaZFnDivBackMb
import Derived.Test.YtigfpkbdkdihbaaZFnDivBackMc
import Derived.Test.YtigfpkbdkdihbaaZFnDivBackMd
import Derived.Test.YtigfpkbdkdihbaaZFnDivBackMh
import Derived.Test.YtigfpkbdkdihbaaZFnDivBackMr
import Derived.Test.YtigfpkbdkdihbaaZFnDivBackMx
import Derived.Test.YtigfpkbdkdihbaaZFnDivBackMy
import Derived.Test.YtigfpkbdkdihbaaZFnDivBackMm
import Derived.Test.YtigfpkbdkdihbaaZFnDivBackMw
import Derived.Test.YtigfpkbdkdihbaaZFnDivBackWWords
import Derived.Test.YtigfpkbdkdihbaaZFnDivBackWMore
namespace Go.Proofs.Ytigfpkbdkdihbaa.M
open Go.RowKit Go.Proofs.Ytigfpkbdkdihbaa.P Go.Proofs.YtigfpkbdkdihbaaW.PrintWords Go.Proofs.YtigfpkbdkdihbaaW.PrintLast Go.Proofs.YtigfpkbdkdihbaaW.PrintMore
set_option linter.unusedVariables false
set_option linter.unusedSimpArgs false

/-- The sum of the first terms of the product's coefficient q, nothing taken away. -/
def cvn (a b : List Int) (q : Nat) : Nat → Int
  | 0 => 0
  | i + 1 => cvn a b q i + (if i ≤ q then rd a (i : Int) * rd b ((q - i : Nat) : Int) else 0)
theorem cs_cv (p : Int) (a b : List Int) (q n : Nat) : Cg p (cs p a b q n) (cvn a b q n) := by
  induction n with
  | zero => exact Cg.refl p _
  | succ n ih =>
    rw [cs, cvn]
    split
    · exact (Cg.mod p _).trans (ih.add (Cg.refl p _))
    · rw [Int.add_zero]; exact ih
theorem cvn_congr {a a' b : List Int} {q : Nat} (n : Nat) (h : ∀ j : Nat, j < n → rd a (j : Int) = rd a' (j : Int)) : cvn a b q n = cvn a' b q n := by
  induction n with
  | zero => rfl
  | succ n ih => rw [cvn, cvn, ih fun j hj => h j (by omega), h n (by omega)]
theorem div_id (p : Int) {b : List Int} (hb : 1 ≤ b.length) (v : Int) (n : Nat) : ∀ x : List Int, n + b.length - 1 ≤ x.length → ∀ i : Nat, Cg p (cvn (dquo p b v n x) b i n + rd (drun p b v n x) (i : Int)) (rd x (i : Int)) := by
  induction n with
  | zero =>
    intro x hx i
    rw [cvn, Int.zero_add]
    exact Cg.refl p _
  | succ n ih =>
    intro x hx i
    have h := ih (dstep p b v x n) (by rw [dstep_length]; omega) i
    have e1 : cvn (dquo p b v (n + 1) x) b i n = cvn (dquo p b v n (dstep p b v x n)) b i n := cvn_congr n fun j hj => by
      rw [dquo, rd_append, dquo_length, if_pos hj]
    have e2 : rd (dquo p b v (n + 1) x) (n : Int) = dc p b v x n := by
      rw [dquo, rd_append, dquo_length, if_neg (by omega), Nat.sub_self]; rfl
    have e3 : Cg p (rd (dstep p b v x n) (i : Int) + (if n ≤ i then dc p b v x n * rd b ((i - n : Nat) : Int) else 0)) (rd x (i : Int)) := by
      by_cases hi : i < x.length
      · rw [dstep, ds1_rd _ _ _ _ _ _ hi]
        by_cases c1 : n ≤ i
        · rw [if_pos c1]
          by_cases c2 : i < n + b.length
          · rw [if_pos ⟨c1, c2⟩]
            have h2 := ((Cg.mod p _).trans ((Cg.refl p (rd x (i : Int))).sub (Cg.mod p (dc p b v x n * rd b ((i - n : Nat) : Int))))).add (Cg.refl p (dc p b v x n * rd b ((i - n : Nat) : Int)))
            exact h2.trans (Cg.of_eq (by omega))
          · rw [if_neg (by omega), rd_ge (l := b) (by omega), Int.mul_zero, Int.add_zero]
            exact Cg.refl p _
        · rw [if_neg c1, if_neg (by omega), Int.add_zero]
          exact Cg.refl p _
      · rw [rd_ge (l := x) (by omega), rd_ge (by rw [dstep_length]; omega), rd_ge (l := b) (i := i - n) (by omega)]
        split
        · simp only [Int.mul_zero, Int.add_zero]; exact Cg.refl p _
        · exact Cg.refl p _
    rw [cvn, e1, e2, drun]
    have h4 := (h.add (Cg.refl p (if n ≤ i then dc p b v x n * rd b ((i - n : Nat) : Int) else 0))).trans e3
    exact (Cg.of_eq (by omega)).trans h4
section
variable {f p g t : Int}
/-- What is left has the same numbers as the whole run's end. -/
theorem dm_rd (h : IsF p g t) {a b : List Int} (hb : pk p b = true) (h0 : 1 ≤ b.length) (hl : b.length ≤ a.length) (i : Nat) : rd (dm p a b).2 (i : Int) = rd (drun p b (iv1 p b) (a.length - b.length + 1) a) (i : Int) := by
  have r := h.rng
  unfold dm
  rw [if_neg (by omega)]
  show rd (cut _) _ = _
  rw [cut_rd, rd_take]
  split
  · rfl
  · rw [drun_zero (by omega) h0 (iv1_cg h hb h0) _ a (by omega) (fun q hq => rd_ge (by omega)) i (by omega)]
/-- The dividend's numbers, for any list of elements. -/
theorem dm_id (h : IsF p g t) {a b : List Int} (hb : pk p b = true) (h0 : 1 ≤ b.length) (i : Nat) : Cg p (rd (ml p (dm p a b).1 b) (i : Int) + rd (dm p a b).2 (i : Int)) (rd a (i : Int)) := by
  have r := h.rng
  by_cases c : a.length < b.length
  · have e : dm p a b = ([], a) := by unfold dm; rw [if_pos c]
    rw [e]
    show Cg p (rd (ml p [] b) (i : Int) + rd a (i : Int)) _
    rw [show ml p [] b = [] by unfold ml; rw [if_pos (.inl rfl)], rd_nil, Int.zero_add]
    exact Cg.refl p _
  · rw [dm_rd h hb h0 (by omega), ml_rd (by omega)]
    have e : (dm p a b).1 = dquo p b (iv1 p b) (a.length - b.length + 1) a := by unfold dm; rw [if_neg c]
    rw [e, dquo_length]
    exact ((cs_cv p _ _ _ _).add (Cg.refl p _)).trans (div_id p h0 _ _ a (by omega) i)
theorem dm_q_pk (h : IsF p g t) {a b : List Int} (ha : pk p a = true) (hb : pk p b = true) (h0 : 1 ≤ b.length) : pk p (dm p a b).1 = true := by
  have r := h.rng
  have hla := pk_len ha
  unfold dm
  split
  · exact pk_nil p
  · exact pk_of (by rw [dquo_length]; omega) (dquo_els (by omega) b _ _ a) (dquo_top h (pk_els ha) (pk_top' ha) hb h0 (by omega))
theorem dm_q_ml (h : IsF p g t) {a b : List Int} (ha : pk p a = true) (h0 : 1 ≤ b.length) : (ml p (dm p a b).1 b).length ≤ 400 := by
  have hla := pk_len ha
  have h2 := ml_len p (dm p a b).1 b
  by_cases c : a.length < b.length
  · have e : dm p a b = ([], a) := by unfold dm; rw [if_pos c]
    rw [e]
    show (ml p [] b).length ≤ 400
    rw [show ml p [] b = [] by unfold ml; rw [if_pos (.inl rfl)]]
    simp
  · have e : (dm p a b).1 = dquo p b (iv1 p b) (a.length - b.length + 1) a := by unfold dm; rw [if_neg c]
    rw [e, dquo_length] at h2
    rw [e]
    omega
theorem div_back (h : IsF p g t) {a b : List Int} (ha : pk p a = true) (hb : pk p b = true) (h0 : 1 ≤ b.length) : ad p (ml p (dm p a b).1 b) (dm p a b).2 = a := by
  have r := h.rng
  apply ext_top (ad_top _ _ _) (pk_top' ha)
  intro i
  have q := els_rd' (p := p) (by omega) (pk_els ha) (i : Int)
  rw [ad_rd]
  exact (dm_id h hb h0 i).emod_of q.1 q.2
end

end Go.Proofs.Ytigfpkbdkdihbaa.M
