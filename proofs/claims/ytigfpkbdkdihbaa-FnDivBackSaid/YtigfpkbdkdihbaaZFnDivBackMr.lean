import Derived.Test.YtigfpkbdkdihbaaZFnDivBackG
/- Lists of elements and polynomials: what the program's and the reference's checks answer. -/
import Derived.Test.YtigfpkbdkdihbaaZFnDivBackMa
import Derived.Test.YtigfpkbdkdihbaaZFnDivBackMb
import Derived.Test.YtigfpkbdkdihbaaZFnDivBackMc
import Derived.Test.YtigfpkbdkdihbaaZFnDivBackMd
import Derived.Test.YtigfpkbdkdihbaaZFnDivBackMh
import Derived.Test.YtigfpkbdkdihbaaZFnDivBackWWords
import Derived.Test.YtigfpkbdkdihbaaZFnDivBackWMore
import Derived.Test.YtigfpkbdkdihbaaZFnDivBack0
import Derived.Test.YtigfpkbdkdihbaaZFnDivBack5
namespace Go.Proofs.Ytigfpkbdkdihbaa.M
open Go.RowKit Go.Proofs.Ytigfpkbdkdihbaa.P Go.Proofs.YtigfpkbdkdihbaaW.PrintWords Go.Proofs.YtigfpkbdkdihbaaW.PrintLast Go.Proofs.YtigfpkbdkdihbaaW.PrintMore
set_option linter.unusedVariables false
set_option linter.unusedSimpArgs false

/-- All of the list lie from 0 to p - 1. -/
def els (p : Int) (l : List Int) : Bool := l.all fun x => decide (0 ≤ x) && decide (x < p)
theorem els_iff {p : Int} {l : List Int} : els p l = true ↔ ∀ x ∈ l, 0 ≤ x ∧ x < p := by simp [els]
theorem els_rd {p : Int} {l : List Int} (h : els p l = true) {i : Int} (h0 : 0 ≤ i) (h1 : i < (l.length : Int)) : 0 ≤ rd l i ∧ rd l i < p :=
  els_iff.1 h _ (rd_mem h0 h1)
theorem els_rd' {p : Int} (hp : 0 < p) {l : List Int} (h : els p l = true) (i : Int) : 0 ≤ rd l i ∧ rd l i < p := by
  unfold rd
  rw [List.getD_eq_getElem?_getD]
  cases e : l[i.toNat]? with
  | none => exact ⟨Int.le_refl _, hp⟩
  | some x => exact els_iff.1 h x (List.mem_of_getElem? e)
theorem els_drop {p : Int} {l : List Int} {i : Nat} (h : i < l.length) : els p (l.drop i) = (decide (0 ≤ rd l (i : Int)) && decide (rd l (i : Int) < p) && els p (l.drop (i + 1))) := by
  rw [List.drop_eq_getElem_cons h, rd_at h]
  rfl
theorem els_append {p : Int} {a b : List Int} : els p (a ++ b) = (els p a && els p b) := by simp [els]
section
variable {f p g t : Int}
theorem areElements_l0 (h : IsF p g t) (l : List Int) (hl : l.length ≤ 1048576) (d : Nat) : ∀ (k i : Nat), d < k → l.length - i = d → i ≤ l.length →
    impl_field_areElements.l0 k l l.length i p g t = some (els p (l.drop i)) := by
  induction d with
  | zero =>
    intro k i hk hd hi
    obtain ⟨k, rfl⟩ : ∃ m, k = m + 1 := ⟨k - 1, by omega⟩
    obtain rfl : i = l.length := by omega
    simp (disch := omega) only [impl_field_areElements.l0, w64, tmod_pos, tdiv_pos, ↓if_pos, ↓if_neg, if_pos, if_neg, if_true, if_false, Option.bind_some, Bool.false_eq_true, Bool.not_true, Bool.not_false, ↓reduceIte]
    rw [List.drop_length]; rfl
  | succ d ih =>
    intro k i hk hd hi
    obtain ⟨k, rfl⟩ : ∃ m, k = m + 1 := ⟨k - 1, by omega⟩
    rw [els_drop (by omega)]
    by_cases h0 : rd l (i : Int) < 0
    · simp (disch := omega) only [impl_field_areElements.l0, w64, tmod_pos, tdiv_pos, ↓if_pos, ↓if_neg, if_pos, if_neg, if_true, if_false, Option.bind_some, Bool.false_eq_true, Bool.not_true, Bool.not_false, ↓reduceIte]
      simp [show ¬ 0 ≤ rd l (i : Int) by omega]
    by_cases h1 : p ≤ rd l (i : Int)
    · simp (disch := omega) only [impl_field_areElements.l0, w64, tmod_pos, tdiv_pos, ↓if_pos, ↓if_neg, if_pos, if_neg, if_true, if_false, Option.bind_some, Bool.false_eq_true, Bool.not_true, Bool.not_false, ↓reduceIte]
      simp [show ¬ rd l (i : Int) < p by omega]
    simp (disch := omega) only [impl_field_areElements.l0, w64, tmod_pos, tdiv_pos, ↓if_pos, ↓if_neg, if_pos, if_neg, if_true, if_false, Option.bind_some, Bool.false_eq_true, Bool.not_true, Bool.not_false, ↓reduceIte]
    have e := ih k (i + 1) (by omega) (by omega) (by omega)
    simp only [show 0 ≤ rd l (i : Int) by omega, show rd l (i : Int) < p by omega, decide_true, Bool.true_and]
    exact e
theorem areElements_ok (h : IsF p g t) {l : List Int} (hl : l.length ≤ 1048576) : Ev (fun k => impl_field_areElements.f k p g t l) (els p l) := by
  refine ⟨l.length + 1, fun k hk => ?_⟩
  unfold impl_field_areElements.f
  exact areElements_l0 h l hl l.length k 0 (by omega) (by omega) (by omega)
theorem l03Elements_l0 (h : IsF p g t) (l : List Int) (hl : l.length ≤ 1048576) (d : Nat) : ∀ (k i : Nat), d < k → l.length - i = d → i ≤ l.length →
    spec_l03Elements.l0 k l p i = some (els p (l.drop i)) := by
  have r := h.rng
  induction d with
  | zero =>
    intro k i hk hd hi
    obtain ⟨k, rfl⟩ : ∃ m, k = m + 1 := ⟨k - 1, by omega⟩
    obtain rfl : i = l.length := by omega
    simp (disch := omega) only [spec_l03Elements.l0, w64, tmod_pos, tdiv_pos, ↓if_pos, ↓if_neg, if_pos, if_neg, if_true, if_false, Option.bind_some, Bool.false_eq_true, Bool.not_true, Bool.not_false, ↓reduceIte]
    rw [List.drop_length]; rfl
  | succ d ih =>
    intro k i hk hd hi
    obtain ⟨k, rfl⟩ : ∃ m, k = m + 1 := ⟨k - 1, by omega⟩
    rw [els_drop (by omega)]
    by_cases h0 : 0 ≤ rd l (i : Int)
    · by_cases h1 : rd l (i : Int) < p
      · have hd1 : decide (rd l (i : Int) ≤ p - 1) = true := decide_eq_true (by omega)
        have hd2 : decide (rd l (i : Int) < p) = true := decide_eq_true (by omega)
        have hd3 : decide (0 ≤ rd l (i : Int)) = true := decide_eq_true (by omega)
        have e := ih k (i + 1) (by omega) (by omega) (by omega)
        rw [hd2, hd3]
        simp (disch := omega) only [spec_l03Elements.l0, spec_l01In.f, hd1, w64, tmod_pos, tdiv_pos, ↓if_pos, ↓if_neg, if_pos, if_neg, if_true, if_false, Option.bind_some, Bool.false_eq_true, Bool.not_true, Bool.not_false, ↓reduceIte]
        simpa using e
      · have hd1 : decide (rd l (i : Int) ≤ p - 1) = false := decide_eq_false (by omega)
        have hd2 : decide (rd l (i : Int) < p) = false := decide_eq_false (by omega)
        rw [hd2]
        simp (disch := omega) only [spec_l03Elements.l0, spec_l01In.f, hd1, w64, tmod_pos, tdiv_pos, ↓if_pos, ↓if_neg, if_pos, if_neg, if_true, if_false, Option.bind_some, Bool.false_eq_true, Bool.not_true, Bool.not_false, ↓reduceIte]
        simp
    · have hd3 : decide (0 ≤ rd l (i : Int)) = false := decide_eq_false (by omega)
      rw [hd3]
      simp (disch := omega) only [spec_l03Elements.l0, spec_l01In.f, w64, tmod_pos, tdiv_pos, ↓if_pos, ↓if_neg, if_pos, if_neg, if_true, if_false, Option.bind_some, Bool.false_eq_true, Bool.not_true, Bool.not_false, ↓reduceIte]
      simp
theorem l03Elements_ok (h : FI f p g t) {l : List Int} (hl : l.length ≤ 1048576) : Ev (fun k => spec_l03Elements.f k f l) (els p l) := by
  have r := h.isF.rng
  refine ⟨l.length + 1, fun k hk => ?_⟩
  unfold spec_l03Elements.f
  simp (disch := omega) only [Modulus_ok h, w64, tmod_pos, tdiv_pos, ↓if_pos, ↓if_neg, if_pos, if_neg, if_true, if_false, Option.bind_some, Bool.false_eq_true, Bool.not_true, Bool.not_false, ↓reduceIte]
  exact l03Elements_l0 h.isF l hl l.length k 0 (by omega) (by omega) (by omega)
theorem l03Elements_no (h : f < 0 ∨ 9 ≤ f) (l : List Int) : Ev (fun k => spec_l03Elements.f k f l) false := by
  refine ⟨0, fun k hk => ?_⟩
  unfold spec_l03Elements.f
  simp (disch := omega) only [Modulus_no h, w64, tmod_pos, tdiv_pos, ↓if_pos, ↓if_neg, if_pos, if_neg, if_true, if_false, Option.bind_some, Bool.false_eq_true, Bool.not_true, Bool.not_false, ↓reduceIte]

/-! ### Polynomials -/
/-- At most 400 elements, and the last of them is not 0. -/
def pk (p : Int) (l : List Int) : Bool := decide (l.length ≤ 400) && els p l && (decide (l.length = 0) || decide (rd l ((l.length : Int) - 1) ≠ 0))
theorem pk_len {p : Int} {l : List Int} (h : pk p l = true) : l.length ≤ 400 := by simp [pk] at h; exact h.1.1
theorem pk_els {p : Int} {l : List Int} (h : pk p l = true) : els p l = true := by simp [pk] at h; exact h.1.2
theorem pk_top {p : Int} {l : List Int} (h : pk p l = true) : l.length = 0 ∨ rd l ((l.length : Int) - 1) ≠ 0 := by simp [pk] at h; exact h.2.imp (by intro h; rw [h]; rfl) id
theorem polyField_l0 (h : IsF p g t) (L : List (List Int)) (hL : L.length ≤ 1048576) (hl : ∀ l ∈ L, l.length ≤ 1048576) (d : Nat) : ∃ K, ∀ (k i : Nat), K + d < k → L.length - i = d → i ≤ L.length →
    impl_polyField.l0 k L L.length i p g t = some (if (L.drop i).all (pk p) = true then (p, g, t, true) else (0, 0, 0, false)) := by
  induction d with
  | zero =>
    refine ⟨0, fun k i hk hd hi => ?_⟩
    obtain ⟨k, rfl⟩ : ∃ m, k = m + 1 := ⟨k - 1, by omega⟩
    obtain rfl : i = L.length := by omega
    simp (disch := omega) only [impl_polyField.l0, w64, tmod_pos, tdiv_pos, ↓if_pos, ↓if_neg, if_pos, if_neg, if_true, if_false, Option.bind_some, Bool.false_eq_true, Bool.not_true, Bool.not_false, ↓reduceIte]
    rw [List.drop_length]; rfl
  | succ d ih =>
    obtain ⟨K, ih⟩ := ih
    by_cases hd1 : d < L.length
    · have hi : L.length - (d + 1) < L.length := by omega
      have e1 : rd_L2 L ((L.length - (d + 1) : Nat) : Int) = L[L.length - (d + 1)] := by
        unfold rd_L2
        rw [Int.toNat_natCast, List.getD_eq_getElem?_getD, List.getElem?_eq_getElem hi]
        rfl
      have hm := hl _ (List.getElem_mem hi)
      obtain ⟨K', hK'⟩ := areElements_ok h hm
      refine ⟨K + K', fun k i hk hd hi => ?_⟩
      obtain ⟨k, rfl⟩ : ∃ m, k = m + 1 := ⟨k - 1, by omega⟩
      obtain rfl : i = L.length - (d + 1) := by omega
      rw [List.drop_eq_getElem_cons (by omega), List.all_cons]
      have h3 := ih k (L.length - (d + 1) + 1) (by omega) (by omega) (by omega)
      generalize L[L.length - (d + 1)] = l at *
      by_cases c1 : 400 < l.length
      · simp (disch := omega) only [impl_polyField.l0, e1, w64, tmod_pos, tdiv_pos, ↓if_pos, ↓if_neg, if_pos, if_neg, if_true, if_false, Option.bind_some, Bool.false_eq_true, Bool.not_true, Bool.not_false, ↓reduceIte]
        rw [show pk p l = false by simp [pk]; omega]; simp
      by_cases c2 : els p l = true
      · by_cases c3 : l.length = 0
        · simp (disch := omega) only [impl_polyField.l0, e1, hK', c2, w64, tmod_pos, tdiv_pos, ↓if_pos, ↓if_neg, if_pos, if_neg, if_true, if_false, Option.bind_some, Bool.false_eq_true, Bool.not_true, Bool.not_false, ↓reduceIte]
          rw [show pk p l = true by simp [pk, c2, c3]]
          simpa using h3
        by_cases c4 : rd l ((l.length : Int) - 1) = 0
        · simp (disch := omega) only [impl_polyField.l0, e1, hK', c2, w64, tmod_pos, tdiv_pos, ↓if_pos, ↓if_neg, if_pos, if_neg, if_true, if_false, Option.bind_some, Bool.false_eq_true, Bool.not_true, Bool.not_false, ↓reduceIte]
          rw [show pk p l = false by simp [pk, c2, c3, c4]]; simp
        · simp (disch := omega) only [impl_polyField.l0, e1, hK', c2, c4, w64, tmod_pos, tdiv_pos, ↓if_pos, ↓if_neg, if_pos, if_neg, if_true, if_false, Option.bind_some, Bool.false_eq_true, Bool.not_true, Bool.not_false, ↓reduceIte]
          rw [show pk p l = true by simp [pk, c2, c3, c4]; omega]
          simpa using h3
      · have c2' : els p l = false := by simpa using c2
        simp (disch := omega) only [impl_polyField.l0, e1, hK', c2', w64, tmod_pos, tdiv_pos, ↓if_pos, ↓if_neg, if_pos, if_neg, if_true, if_false, Option.bind_some, Bool.false_eq_true, Bool.not_true, Bool.not_false, ↓reduceIte]
        rw [show pk p l = false by simp [pk, c2']]; simp
    · exact ⟨0, fun k i hk hd hi => by omega⟩
theorem polyField_ok (h : FI f p g t) {L : List (List Int)} (hL : L.length ≤ 1048576) (hl : ∀ l ∈ L, l.length ≤ 1048576) :
    Ev (fun k => impl_polyField.f k f L) (if L.all (pk p) = true then (p, g, t, true) else (0, 0, 0, false)) := by
  obtain ⟨K, hK⟩ := polyField_l0 h.isF L hL hl L.length
  refine ⟨K + L.length + 1, fun k hk => ?_⟩
  unfold impl_polyField.f
  simp (disch := omega) only [fieldOf_ok h, w64, tmod_pos, tdiv_pos, ↓if_pos, ↓if_neg, if_pos, if_neg, if_true, if_false, Option.bind_some, Bool.false_eq_true, Bool.not_true, Bool.not_false, ↓reduceIte]
  exact hK k 0 (by omega) (by omega) (by omega)
/-- Two. -/
theorem polyField2 (h : FI f p g t) {a b : List Int} (ha : a.length ≤ 1048576) (hb : b.length ≤ 1048576) : Ev (fun k => impl_polyField.f k f [a, b]) (if pk p a = true ∧ pk p b = true then (p, g, t, true) else (0, 0, 0, false)) := by
  have := polyField_ok h (L := [a, b]) (by simp) (by intro l hl; simp at hl; rcases hl with hl | hl <;> rw [hl] <;> assumption)
  simpa using this
theorem PolyOk_ok (h : FI f p g t) {a : List Int} (ha : a.length ≤ 1048576) : Ev (fun k => spec_PolyOk.f k f a) (pk p a) := by
  obtain ⟨K, hK⟩ := l03Elements_ok h ha
  refine ⟨K, fun k hk => ?_⟩
  unfold spec_PolyOk.f
  by_cases c1 : 400 < a.length
  · simp (disch := omega) only [w64, tmod_pos, tdiv_pos, ↓if_pos, ↓if_neg, if_pos, if_neg, if_true, if_false, Option.bind_some, Bool.false_eq_true, Bool.not_true, Bool.not_false, ↓reduceIte]
    rw [show pk p a = false by simp [pk]; omega]
  by_cases c2 : els p a = true
  · by_cases c3 : a.length = 0
    · simp (disch := omega) only [hK, c2, w64, tmod_pos, tdiv_pos, ↓if_pos, ↓if_neg, if_pos, if_neg, if_true, if_false, Option.bind_some, Bool.false_eq_true, Bool.not_true, Bool.not_false, ↓reduceIte]
      rw [show pk p a = true by simp [pk, c2, c3]]
    by_cases c4 : rd a ((a.length : Int) - 1) = 0
    · simp (disch := omega) only [hK, c2, c4, w64, tmod_pos, tdiv_pos, ↓if_pos, ↓if_neg, if_pos, if_neg, if_true, if_false, Option.bind_some, Bool.false_eq_true, Bool.not_true, Bool.not_false, ↓reduceIte]
      rw [show pk p a = false by simp [pk, c2, c3, c4]]; rfl
    · simp (disch := omega) only [hK, c2, w64, tmod_pos, tdiv_pos, ↓if_pos, ↓if_neg, if_pos, if_neg, if_true, if_false, Option.bind_some, Bool.false_eq_true, Bool.not_true, Bool.not_false, ↓reduceIte]
      rw [show pk p a = true by simp [pk, c2, c3, c4]; omega]
      simp [c4]
  · have c2' : els p a = false := by simpa using c2
    simp (disch := omega) only [hK, c2', w64, tmod_pos, tdiv_pos, ↓if_pos, ↓if_neg, if_pos, if_neg, if_true, if_false, Option.bind_some, Bool.false_eq_true, Bool.not_true, Bool.not_false, ↓reduceIte]
    rw [show pk p a = false by simp [pk, c2']]
theorem PolyOk_no (h : f < 0 ∨ 9 ≤ f) (a : List Int) : Ev (fun k => spec_PolyOk.f k f a) false := by
  obtain ⟨K, hK⟩ := l03Elements_no h a
  refine ⟨K, fun k hk => ?_⟩
  unfold spec_PolyOk.f
  by_cases c1 : 400 < a.length
  · simp (disch := omega) only [w64, tmod_pos, tdiv_pos, ↓if_pos, ↓if_neg, if_pos, if_neg, if_true, if_false, Option.bind_some, Bool.false_eq_true, Bool.not_true, Bool.not_false, ↓reduceIte]
  · simp (disch := omega) only [hK, w64, tmod_pos, tdiv_pos, ↓if_pos, ↓if_neg, if_pos, if_neg, if_true, if_false, Option.bind_some, Bool.false_eq_true, Bool.not_true, Bool.not_false, ↓reduceIte]

end

end Go.Proofs.Ytigfpkbdkdihbaa.M
