import Derived.Test.YtginidfoikheaaaG0
/- Vectors: what the program's and the reference's checks answer. -/
import Derived.Test.YtginidfoikheaaaZFnExactTwistedMa
import Derived.Test.YtginidfoikheaaaZFnExactTwistedMb
import Derived.Test.YtginidfoikheaaaZFnExactTwistedMc
import Derived.Test.YtginidfoikheaaaZFnExactTwistedMd
import Derived.Test.YtginidfoikheaaaZFnExactTwistedMe
import Derived.Test.YtginidfoikheaaaZFnExactTwistedMh
import Derived.Test.YtginidfoikheaaaZFnExactTwistedMr
import Derived.Test.YtginidfoikheaaaWWords
import Derived.Test.YtginidfoikheaaaWMore
import Derived.Test.YtginidfoikheaaaZFnExactTwisted2
import Derived.Test.YtginidfoikheaaaZFnExactTwisted0
import Derived.Test.YtginidfoikheaaaZFnExactTwisted4
namespace Go.Proofs.Ytginidfoikheaaa.M
open Go.RowKit Go.Proofs.Ytginidfoikheaaa.P Go.Proofs.YtginidfoikheaaaW.PrintWords Go.Proofs.YtginidfoikheaaaW.PrintLast Go.Proofs.YtginidfoikheaaaW.PrintMore
set_option linter.unusedVariables false
set_option linter.unusedSimpArgs false

section
variable {f p g t : Int}
/-! ### Vectors -/
/-- A power of two not past 2^t, of elements. -/
def vk (p t : Int) (l : List Int) : Bool := decide (0 ≤ lg l.length) && decide (lg l.length ≤ t) && els p l
theorem vk_els {p t : Int} {l : List Int} (h : vk p t l = true) : els p l = true := by simp [vk] at h; exact h.2
theorem vk_lg {p t : Int} {l : List Int} (h : vk p t l = true) : 0 ≤ lg l.length ∧ lg l.length ≤ t := by simp [vk] at h; exact h.1
theorem vk_len {p t : Int} {l : List Int} (h : vk p t l = true) : ∃ j : Nat, j ≤ 9 ∧ l.length = 2 ^ j ∧ lg l.length = j ∧ (j : Int) ≤ t := by
  have h1 := vk_lg h
  obtain ⟨j, hj, e, e'⟩ := lg_some h1.1
  exact ⟨j, hj, by have : ((l.length : Nat) : Int) = ((2 ^ j : Nat) : Int) := by rw [e]; simp
                   omega, e', by omega⟩
theorem two_pow_512 {j : Nat} (h : j ≤ 9) : 2 ^ j ≤ 512 := Nat.pow_le_pow_right (show 0 < 2 by omega) h
theorem vectorField_l0 (h : IsF p g t) (L : List (List Int)) (hL : L.length ≤ 1048576) (hl : ∀ l ∈ L, l.length ≤ 1048576) (d : Nat) : ∃ K, ∀ (k i : Nat), K + d < k → L.length - i = d → i ≤ L.length →
    impl_vectorField.l0 k L L L.length i p g t = some (if (L.drop i).all (fun l => vk p t l && decide ((l.length : Int) = (rd_L2 L 0).length)) = true then (p, g, t, true) else (0, 0, 0, false)) := by
  induction d with
  | zero =>
    refine ⟨0, fun k i hk hd hi => ?_⟩
    obtain ⟨k, rfl⟩ : ∃ m, k = m + 1 := ⟨k - 1, by omega⟩
    obtain rfl : i = L.length := by omega
    simp (disch := omega) only [impl_vectorField.l0, w64, tmod_pos, tdiv_pos, ↓if_pos, ↓if_neg, if_pos, if_neg, if_true, if_false, Option.bind_some, Bool.false_eq_true, Bool.not_true, Bool.not_false, ↓reduceIte]
    rw [List.drop_length]; rfl
  | succ d ih =>
    obtain ⟨K, ih⟩ := ih
    by_cases hd1 : d < L.length
    · have hi : L.length - (d + 1) < L.length := by omega
      have e1 : rd_L2 L ((L.length - (d + 1) : Nat) : Int) = L[L.length - (d + 1)] := by
        unfold rd_L2
        rw [Int.toNat_natCast, List.getD_eq_getElem?_getD, List.getElem?_eq_getElem hi]
        rfl
      have hm := hl _ (List.getElem_mem hi)
      obtain ⟨K', hK'⟩ := areElements_ok h hm
      obtain ⟨K2, hK2⟩ := logOf_ok ((L[L.length - (d + 1)].length : Nat) : Int)
      refine ⟨K + K' + K2, fun k i hk hd hi => ?_⟩
      obtain ⟨k, rfl⟩ : ∃ m, k = m + 1 := ⟨k - 1, by omega⟩
      obtain rfl : i = L.length - (d + 1) := by omega
      rw [List.drop_eq_getElem_cons (by omega), List.all_cons]
      have h3 := ih k (L.length - (d + 1) + 1) (by omega) (by omega) (by omega)
      generalize L[L.length - (d + 1)] = l at *
      by_cases c1 : lg l.length < 0
      · simp (disch := omega) only [impl_vectorField.l0, e1, hK2, w64, tmod_pos, tdiv_pos, ↓if_pos, ↓if_neg, if_pos, if_neg, if_true, if_false, Option.bind_some, Bool.false_eq_true, Bool.not_true, Bool.not_false, ↓reduceIte]
        rw [show vk p t l = false by simp [vk]; omega]; simp
      by_cases c0 : t < lg l.length
      · simp (disch := omega) only [impl_vectorField.l0, e1, hK2, w64, tmod_pos, tdiv_pos, ↓if_pos, ↓if_neg, if_pos, if_neg, if_true, if_false, Option.bind_some, Bool.false_eq_true, Bool.not_true, Bool.not_false, ↓reduceIte]
        rw [show vk p t l = false by simp [vk]; omega]; simp
      by_cases c2 : els p l = true
      · have hv : vk p t l = true := by simp [vk, c2]; omega
        by_cases c3 : (l.length : Int) = ((rd_L2 L 0).length : Int)
        · have hL0 : (0 : Int) < (L.length : Int) := by omega
          simp (disch := omega) only [impl_vectorField.l0, e1, ↓hK2, ↓hK', c2, hL0, w64, tmod_pos, tdiv_pos, ↓if_pos, ↓if_neg, if_pos, if_neg, if_true, if_false, Option.bind_some, Bool.false_eq_true, Bool.not_true, Bool.not_false, ↓reduceIte]
          have c3' : decide ((l.length : Int) = ((rd_L2 L 0).length : Int)) = true := decide_eq_true c3
          rw [hv, c3']
          simpa using h3
        · simp (disch := omega) only [impl_vectorField.l0, e1, hK2, hK', c2, c3, w64, tmod_pos, tdiv_pos, ↓if_pos, ↓if_neg, if_pos, if_neg, if_true, if_false, Option.bind_some, Bool.false_eq_true, Bool.not_true, Bool.not_false, ↓reduceIte]
          rw [hv]; simp
      · have c2' : els p l = false := by simpa using c2
        simp (disch := omega) only [impl_vectorField.l0, e1, hK2, hK', c2', w64, tmod_pos, tdiv_pos, ↓if_pos, ↓if_neg, if_pos, if_neg, if_true, if_false, Option.bind_some, Bool.false_eq_true, Bool.not_true, Bool.not_false, ↓reduceIte]
        rw [show vk p t l = false by simp [vk, c2']]; simp
    · exact ⟨0, fun k i hk hd hi => by omega⟩
theorem vectorField_ok (h : FI f p g t) {L : List (List Int)} (hL : L.length ≤ 1048576) (hl : ∀ l ∈ L, l.length ≤ 1048576) :
    Ev (fun k => impl_vectorField.f k f L) (if L.all (fun l => vk p t l && decide ((l.length : Int) = (rd_L2 L 0).length)) = true then (p, g, t, true) else (0, 0, 0, false)) := by
  obtain ⟨K, hK⟩ := vectorField_l0 h.isF L hL hl L.length
  refine ⟨K + L.length + 1, fun k hk => ?_⟩
  unfold impl_vectorField.f
  simp (disch := omega) only [fieldOf_ok h, w64, tmod_pos, tdiv_pos, ↓if_pos, ↓if_neg, if_pos, if_neg, if_true, if_false, Option.bind_some, Bool.false_eq_true, Bool.not_true, Bool.not_false, ↓reduceIte]
  exact hK k 0 (by omega) (by omega) (by omega)
theorem vectorField_no (h : f < 0 ∨ 9 ≤ f) (L : List (List Int)) : Ev (fun k => impl_vectorField.f k f L) (0, 0, 0, false) := by
  refine ⟨0, fun k hk => ?_⟩
  unfold impl_vectorField.f
  simp (disch := omega) only [fieldOf_no h, w64, tmod_pos, tdiv_pos, ↓if_pos, ↓if_neg, if_pos, if_neg, if_true, if_false, Option.bind_some, Bool.false_eq_true, Bool.not_true, Bool.not_false, ↓reduceIte]
theorem vectorField1 (h : FI f p g t) {a : List Int} (ha : a.length ≤ 1048576) : Ev (fun k => impl_vectorField.f k f [a]) (if vk p t a = true then (p, g, t, true) else (0, 0, 0, false)) := by
  have := vectorField_ok h (L := [a]) (by simp) (by intro l hl; simp at hl; rw [hl]; exact ha)
  simpa [rd_L2] using this
theorem vectorField2 (h : FI f p g t) {a b : List Int} (ha : a.length ≤ 1048576) (hb : b.length ≤ 1048576) :
    Ev (fun k => impl_vectorField.f k f [a, b]) (if vk p t a = true ∧ vk p t b = true ∧ b.length = a.length then (p, g, t, true) else (0, 0, 0, false)) := by
  have := vectorField_ok h (L := [a, b]) (by simp) (by intro l hl; simp at hl; rcases hl with hl | hl <;> rw [hl] <;> assumption)
  simpa [rd_L2, Int.natCast_inj] using this
theorem VectorOk_ok (h : FI f p g t) {a : List Int} (ha : a.length ≤ 1048576) : Ev (fun k => spec_VectorOk.f k f a) (vk p t a) := by
  obtain ⟨K, hK⟩ := l03Elements_ok h ha
  obtain ⟨K2, hK2⟩ := sLogOf_ok ((a.length : Nat) : Int)
  obtain ⟨K3, hK3⟩ := TwoPower_ok h
  refine ⟨K + K2 + K3, fun k hk => ?_⟩
  unfold spec_VectorOk.f
  by_cases c1 : lg a.length < 0
  · simp (disch := omega) only [hK2, w64, tmod_pos, tdiv_pos, ↓if_pos, ↓if_neg, if_pos, if_neg, if_true, if_false, Option.bind_some, Bool.false_eq_true, Bool.not_true, Bool.not_false, ↓reduceIte]
    rw [show vk p t a = false by simp [vk]; omega]
  by_cases c0 : t < lg a.length
  · simp (disch := omega) only [hK2, hK3, w64, tmod_pos, tdiv_pos, ↓if_pos, ↓if_neg, if_pos, if_neg, if_true, if_false, Option.bind_some, Bool.false_eq_true, Bool.not_true, Bool.not_false, ↓reduceIte]
    rw [show vk p t a = false by simp [vk]; omega]
  simp (disch := omega) only [hK, hK2, hK3, w64, tmod_pos, tdiv_pos, ↓if_pos, ↓if_neg, if_pos, if_neg, if_true, if_false, Option.bind_some, Bool.false_eq_true, Bool.not_true, Bool.not_false, ↓reduceIte]
  congr 1
  simp [vk]
  omega
theorem VectorOk_no (h : f < 0 ∨ 9 ≤ f) (a : List Int) : Ev (fun k => spec_VectorOk.f k f a) false := by
  obtain ⟨K, hK⟩ := l03Elements_no h a
  obtain ⟨K2, hK2⟩ := sLogOf_ok ((a.length : Nat) : Int)
  obtain ⟨K3, hK3⟩ := TwoPower_no h
  refine ⟨K + K2 + K3, fun k hk => ?_⟩
  unfold spec_VectorOk.f
  by_cases c1 : lg a.length < 0
  · simp (disch := omega) only [hK2, w64, tmod_pos, tdiv_pos, ↓if_pos, ↓if_neg, if_pos, if_neg, if_true, if_false, Option.bind_some, Bool.false_eq_true, Bool.not_true, Bool.not_false, ↓reduceIte]
  · simp (disch := omega) only [hK2, hK3, w64, tmod_pos, tdiv_pos, ↓if_pos, ↓if_neg, if_pos, if_neg, if_true, if_false, Option.bind_some, Bool.false_eq_true, Bool.not_true, Bool.not_false, ↓reduceIte]
end

end Go.Proofs.Ytginidfoikheaaa.M
