/- For a list drawn of at most MaxList integers, the program's Dot of BatchInverse and the list is the number of invertible elements, as an element. No condition: for every argument. -/
import Derived.Test.YtginidfoikheaaaMi
import Derived.Test.YtginidfoikheaaaMk
import Derived.Test.YtginidfoikheaaaGYFnBatch
namespace Go.Proofs.Ytginidfoikheaaa.Pure
open Go.RowKit Go.Proofs.Ytginidfoikheaaa.P Go.Proofs.Ytginidfoikheaaa.M Go.Proofs.YtginidfoikheaaaW.PrintWords Go.Proofs.YtginidfoikheaaaW.PrintLast Go.Proofs.YtginidfoikheaaaW.PrintMore
set_option linter.unusedVariables false
set_option linter.unusedSimpArgs false

/-- How many of the first n numbers are invertible. -/
def cnt (p : Int) (l : List Int) : Nat → Int
  | 0 => 0
  | n + 1 => cnt p l n + if rd l (n : Int) % p = 0 then 0 else 1
theorem cnt_rng (p : Int) (l : List Int) (n : Nat) : 0 ≤ cnt p l n ∧ cnt p l n ≤ n := by
  induction n with
  | zero => exact ⟨Int.le_refl _, Int.le_refl _⟩
  | succ n ih => simp only [cnt]; split <;> omega
theorem ds_cnt {p g t : Int} (h : IsF p g t) (l : List Int) (n : Nat) (hn : n ≤ l.length) : Cg p (ds p (l.map (iv p)) l n) (cnt p l n) := by
  have r := h.rng
  induction n with
  | zero => exact Cg.refl _ _
  | succ n ih =>
    have e : rd (l.map (iv p)) (n : Int) = iv p (rd l (n : Int)) := by rw [rd_at (by simp; omega), rd_at (by omega)]; simp
    have h1 := ih (by omega)
    simp only [ds, cnt, e]
    refine (Cg.mod p _).trans (h1.add ((Cg.mod p _).trans ?_))
    by_cases hz : rd l (n : Int) % p = 0
    · have hc : Cg p (rd l (n : Int)) 0 := (Cg.mod p _).symm.trans (Cg.of_eq hz)
      rw [if_pos hz, iv_zero h hc]
      exact Cg.of_eq (by simp)
    · rw [if_neg hz]
      exact iv_mul h (fun hc => hz (hc.emod_of (by omega) (by omega)))
theorem FnBatch_l0 {f p g t : Int} (h : FI f p g t) (l : List Int) (hl : l.length ≤ 4096) (d : Nat) : ∃ K, ∀ (k i : Nat), K + d < k → l.length - i = d → i ≤ l.length → laws_FnBatch.l0 k f l (cnt p l i) i = some true := by
  have r := h.isF.rng
  induction d with
  | zero =>
    obtain ⟨K1, h1⟩ := cp_ok (l := l) (by omega)
    obtain ⟨K2, h2⟩ := iBatch_ok h hl
    obtain ⟨K3, h3⟩ := iDot_ok h (a := l.map (iv p)) (b := l) (by simp; omega) hl
    have hmin : min (l.map (iv p)).length l.length = l.length := by simp
    rw [hmin] at h3
    have q := ds_rng (p := p) (by omega) (l.map (iv p)) l l.length
    have c := cnt_rng p l l.length
    have e : (ds p (l.map (iv p)) l l.length == cnt p l l.length % p) = true := beq_iff_eq.mpr (by
      have := (ds_cnt h.isF l l.length (Nat.le_refl _)).emod_eq
      rw [Int.emod_eq_of_lt q.1 q.2] at this
      exact this)
    refine ⟨K1 + K2 + K3, fun k i hk hd hi => ?_⟩
    obtain ⟨KK, rfl⟩ : ∃ m, k = m + 1 := ⟨k - 1, by omega⟩
    obtain rfl : i = l.length := by omega
    simp (disch := omega) only [laws_FnBatch.l0, List.length_map, ↓bnd1 (Reduce_ok h), e, ↓bnd (h1 (KK + 1) (by omega)), ↓bnd (h1 KK (by omega)), ↓bnd (h2 (KK + 1) (by omega)), ↓bnd (h2 KK (by omega)), ↓bnd (h3 (KK + 1) (by omega)), ↓bnd (h3 KK (by omega)), ↓Option.bind_some, ↓reduceIte, ↓if_pos, ↓if_neg, if_pos, if_neg, w64, Bool.not_true, Bool.not_false, Bool.false_eq_true]
  | succ d ih =>
    obtain ⟨K, ih⟩ := ih
    refine ⟨K, fun k i hk hd hi => ?_⟩
    obtain ⟨k, rfl⟩ : ∃ m, k = m + 1 := ⟨k - 1, by omega⟩
    have c := cnt_rng p l i
    have h3 := ih k (i + 1) (by omega) (by omega) (by omega)
    have e : cnt p l (i + 1) = cnt p l i + if rd l (i : Int) % p = 0 then 0 else 1 := rfl
    by_cases hz : rd l (i : Int) % p = 0
    · rw [e, if_pos hz, Int.add_zero] at h3
      simp (disch := omega) only [laws_FnBatch.l0, ↓bnd1 (Reduce_ok h), hz, ↓Option.bind_some, ↓reduceIte, ↓if_pos, ↓if_neg, if_pos, if_neg, w64, Bool.not_true, Bool.not_false, Bool.false_eq_true]
      exact h3
    · rw [e, if_neg hz] at h3
      simp (disch := omega) only [laws_FnBatch.l0, ↓bnd1 (Reduce_ok h), hz, ↓Option.bind_some, ↓reduceIte, ↓if_pos, ↓if_neg, if_pos, if_neg, w64, Bool.not_true, Bool.not_false, Bool.false_eq_true]
      exact h3
theorem FnBatch : laws_FnBatch.Pure := by
  intro s _ _ _
  by_cases hl : 1048576 < s.length
  · refine ⟨0, ?_⟩
    unfold laws_FnBatch.f
    simp (disch := omega) only [↓bnd (big_no hl), ↓Option.bind_some, ↓reduceIte, ↓if_pos, ↓if_neg, if_pos, if_neg, w64, Bool.not_true, Bool.not_false, Bool.false_eq_true]
  obtain ⟨f, l, hl2, K1, h1⟩ := DrawBatch_ok (s := s) (by omega)
  rcases FI.cases f with ⟨p, g, t, h⟩ | h
  · by_cases hm : 4096 < l.length
    · have hd : decide ((l.length : Int) > 4096) = true := decide_eq_true (by omega)
      refine ⟨K1 + 1, ?_⟩
      unfold laws_FnBatch.f
      simp (disch := omega) only [↓bnd (h1 (K1 + 1) (by omega)), ↓bnd (big_ok (s := s) (by omega)), ↓bnd (isField_ok h), hd, laws_FnBatch.j0, ↓Option.bind_some, ↓reduceIte, ↓if_pos, ↓if_neg, if_pos, if_neg, w64, Bool.not_true, Bool.not_false, Bool.false_eq_true]
    · have hd : decide ((l.length : Int) > 4096) = false := decide_eq_false (by omega)
      obtain ⟨K2, h2⟩ := FnBatch_l0 h l (by omega) l.length
      refine ⟨K1 + K2 + l.length + 1 + 1, ?_⟩
      unfold laws_FnBatch.f
      simp (disch := omega) only [↓bnd (h1 (K1 + K2 + l.length + 1 + 1) (by omega)), ↓bnd (big_ok (s := s) (by omega)), ↓bnd (isField_ok h), hd, laws_FnBatch.j0, ↓Option.bind_some, ↓reduceIte, ↓if_pos, ↓if_neg, if_pos, if_neg, w64, Bool.not_true, Bool.not_false, Bool.false_eq_true]
      exact h2 _ 0 (by omega) (by omega) (by omega)
  · refine ⟨K1 + 1, ?_⟩
    unfold laws_FnBatch.f
    simp (disch := omega) only [↓bnd (h1 (K1 + 1) (by omega)), ↓bnd (big_ok (s := s) (by omega)), ↓bnd (isField_no h), laws_FnBatch.j0, ↓Option.bind_some, ↓reduceIte, ↓if_pos, ↓if_neg, if_pos, if_neg, w64, Bool.not_true, Bool.not_false, Bool.false_eq_true]

end Go.Proofs.Ytginidfoikheaaa.Pure
