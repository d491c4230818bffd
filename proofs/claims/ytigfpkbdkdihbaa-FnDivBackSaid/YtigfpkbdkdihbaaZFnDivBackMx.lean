import Derived.Test.YtigfpkbdkdihbaaZFnDivBackG
/- Lists as polynomials' coefficients: the cut of trailing zeros, lists given by a function; what Trim, ShiftPoly, ScalePoly, Derivative, AddPoly, SubPoly, MulPoly come to. -/
import Derived.Test.YtigfpkbdkdihbaaZFnDivBackMa
import Derived.Test.YtigfpkbdkdihbaaZFnDivBackMb
import Derived.Test.YtigfpkbdkdihbaaZFnDivBackMc
import Derived.Test.YtigfpkbdkdihbaaZFnDivBackMd
import Derived.Test.YtigfpkbdkdihbaaZFnDivBackMh
import Derived.Test.YtigfpkbdkdihbaaZFnDivBackMr
import Derived.Test.YtigfpkbdkdihbaaZFnDivBackWWords
import Derived.Test.YtigfpkbdkdihbaaZFnDivBackWMore
import Derived.Test.YtigfpkbdkdihbaaZFnDivBack1
import Derived.Test.YtigfpkbdkdihbaaZFnDivBack5
namespace Go.Proofs.Ytigfpkbdkdihbaa.M
open Go.RowKit Go.Proofs.Ytigfpkbdkdihbaa.P Go.Proofs.YtigfpkbdkdihbaaW.PrintWords Go.Proofs.YtigfpkbdkdihbaaW.PrintLast Go.Proofs.YtigfpkbdkdihbaaW.PrintMore
set_option linter.unusedVariables false
set_option linter.unusedSimpArgs false

theorem rd_ge {l : List Int} {i : Nat} (h : l.length ≤ i) : rd l (i : Int) = 0 := by
  rw [rd_nat, List.getD_eq_getElem?_getD, List.getElem?_eq_none h]; rfl
theorem rd_append (a b : List Int) (i : Nat) : rd (a ++ b) (i : Int) = if i < a.length then rd a (i : Int) else rd b ((i - a.length : Nat) : Int) := by
  simp only [rd_nat, List.getD_eq_getElem?_getD, List.getElem?_append]
  split <;> rfl
theorem rd_take (l : List Int) (n i : Nat) : rd (l.take n) (i : Int) = if i < n then rd l (i : Int) else 0 := by
  simp only [rd_nat, List.getD_eq_getElem?_getD, List.getElem?_take]
  split <;> rfl
theorem rd_set (l : List Int) (n i : Nat) (v : Int) (h : n < l.length) : rd (l.set n v) (i : Int) = if n = i then v else rd l (i : Int) := by
  simp only [rd_nat, List.getD_eq_getElem?_getD, List.getElem?_set]
  split
  · simp [h]
  · rfl
theorem rd_replicate (n i : Nat) : rd (List.replicate n 0) (i : Int) = 0 := by
  simp only [rd_nat, List.getD_eq_getElem?_getD, List.getElem?_replicate]
  split <;> rfl
theorem rd_nil (i : Int) : rd [] i = 0 := rfl
/-- Two lists of one length with the same numbers are one. -/
theorem ext_len {a b : List Int} (hl : a.length = b.length) (h : ∀ i : Nat, rd a (i : Int) = rd b (i : Int)) : a = b := by
  apply List.ext_getElem hl
  intro i h1 h2
  rw [← rd_at h1, ← rd_at h2]
  exact h i

/-- The list of the first n values of c. -/
def mk (n : Nat) (c : Nat → Int) : List Int := (List.range n).map c
theorem mk_length (n : Nat) (c : Nat → Int) : (mk n c).length = n := by simp [mk]
theorem mk_succ (n : Nat) (c : Nat → Int) : mk (n + 1) c = mk n c ++ [c n] := by simp [mk, List.range_succ]
theorem mk_rd (n : Nat) (c : Nat → Int) (i : Nat) : rd (mk n c) (i : Int) = if i < n then c i else 0 := by
  by_cases h : i < n
  · rw [rd_at (by rw [mk_length]; exact h), if_pos h]; simp [mk]
  · rw [rd_ge (by rw [mk_length]; omega), if_neg h]
theorem mk_els {p : Int} {n : Nat} {c : Nat → Int} (h : ∀ i, i < n → 0 ≤ c i ∧ c i < p) : els p (mk n c) = true := by
  rw [els_iff]
  intro x hx
  simp only [mk, List.mem_map, List.mem_range] at hx
  obtain ⟨i, hi, rfl⟩ := hx
  exact h i hi
theorem eq_mk' {l : List Int} {n : Nat} {c : Nat → Int} (hn : l.length = n) (h : ∀ i, i < n → rd l (i : Int) = c i) : l = mk n c := by
  apply ext_len (by rw [mk_length, hn])
  intro i
  rw [mk_rd]
  split
  · exact h i (by omega)
  · rw [rd_ge (by omega)]

/-- The first n of the list without its last zeros. -/
def cutn (l : List Int) : Nat → List Int
  | 0 => []
  | n + 1 => if rd l (n : Int) = 0 then cutn l n else l.take (n + 1)
def cut (l : List Int) : List Int := cutn l l.length
theorem cutn_spec (l : List Int) (n : Nat) (hn : n ≤ l.length) : ∃ m, m ≤ n ∧ cutn l n = l.take m ∧ (m = 0 ∨ rd l ((m : Int) - 1) ≠ 0) ∧ ∀ i : Nat, m ≤ i → i < n → rd l (i : Int) = 0 := by
  induction n with
  | zero => exact ⟨0, by omega, by simp [cutn], .inl rfl, fun i h1 h2 => by omega⟩
  | succ n ih =>
    unfold cutn
    by_cases h : rd l (n : Int) = 0
    · rw [if_pos h]
      obtain ⟨m, h1, h2, h3, h4⟩ := ih (by omega)
      refine ⟨m, by omega, h2, h3, fun i hi hi' => ?_⟩
      by_cases e : i = n
      · rw [e]; exact h
      · exact h4 i hi (by omega)
    · rw [if_neg h]
      refine ⟨n + 1, by omega, rfl, .inr ?_, fun i h1 h2 => by omega⟩
      rw [show ((n + 1 : Nat) : Int) - 1 = (n : Int) by omega]; exact h
theorem cut_spec (l : List Int) : ∃ m, m ≤ l.length ∧ cut l = l.take m ∧ (m = 0 ∨ rd l ((m : Int) - 1) ≠ 0) ∧ ∀ i : Nat, m ≤ i → rd l (i : Int) = 0 := by
  obtain ⟨m, h1, h2, h3, h4⟩ := cutn_spec l l.length (Nat.le_refl _)
  refine ⟨m, h1, h2, h3, fun i hi => ?_⟩
  by_cases h : i < l.length
  · exact h4 i hi h
  · exact rd_ge (by omega)
theorem cut_len (l : List Int) : (cut l).length ≤ l.length := by
  obtain ⟨m, h1, h2, h3, h4⟩ := cut_spec l
  rw [h2, List.length_take]; omega
theorem cut_rd (l : List Int) (i : Nat) : rd (cut l) (i : Int) = rd l (i : Int) := by
  obtain ⟨m, h1, h2, h3, h4⟩ := cut_spec l
  rw [h2, rd_take]
  split
  · rfl
  · rw [h4 i (by omega)]
/-- No zero at its end. -/
def top (l : List Int) : Prop := l.length = 0 ∨ rd l ((l.length : Int) - 1) ≠ 0
theorem cut_top (l : List Int) : top (cut l) := by
  obtain ⟨m, h1, h2, h3, h4⟩ := cut_spec l
  have e : (l.take m).length = m := by rw [List.length_take]; omega
  unfold top
  rw [h2, e]
  rcases h3 with h3 | h3
  · exact .inl h3
  · by_cases h0 : m = 0
    · exact .inl h0
    · refine .inr ?_
      rw [show ((m : Int) - 1) = ((m - 1 : Nat) : Int) by omega] at h3 ⊢
      rw [rd_take, if_pos (by omega)]
      exact h3
theorem top_le {a b : List Int} (ha : top a) (h : ∀ i : Nat, rd a (i : Int) = rd b (i : Int)) : a.length ≤ b.length := by
  rcases ha with ha | ha
  · omega
  · refine Nat.le_of_not_lt fun hlt => ha ?_
    rw [show ((a.length : Int) - 1) = ((a.length - 1 : Nat) : Int) by omega, h, rd_ge (by omega)]
/-- With no zero at the end a list is given by its numbers. -/
theorem ext_top {a b : List Int} (ha : top a) (hb : top b) (h : ∀ i : Nat, rd a (i : Int) = rd b (i : Int)) : a = b :=
  ext_len (Nat.le_antisymm (top_le ha h) (top_le hb fun i => (h i).symm)) h
theorem cut_els {p : Int} {l : List Int} (h : els p l = true) : els p (cut l) = true := by
  obtain ⟨m, h1, h2, h3, h4⟩ := cut_spec l
  rw [h2, els_iff]
  exact fun x hx => els_iff.1 h x (List.mem_of_mem_take hx)
theorem pk_of {p : Int} {l : List Int} (hl : l.length ≤ 400) (he : els p l = true) (ht : top l) : pk p l = true := by
  unfold top at ht
  simp only [pk, he, decide_eq_true hl, Bool.true_and]
  rcases ht with h | h
  · simp [h]
  · simp [h]
theorem pk_top' {p : Int} {l : List Int} (h : pk p l = true) : top l := pk_top h
theorem pk_nil (p : Int) : pk p [] = true := pk_of (by simp) rfl (.inl rfl)

section
variable {f p g t : Int}
theorem trimmed_l0 (l : List Int) (hl : l.length ≤ 9000000000000000000) (n : Nat) : ∀ k, n < k → n ≤ l.length → impl_trimmed.l0 k (l.take n) = some (cutn l n) := by
  induction n with
  | zero =>
    intro k hk hn
    obtain ⟨k, rfl⟩ : ∃ m, k = m + 1 := ⟨k - 1, by omega⟩
    simp (disch := omega) only [impl_trimmed.l0, cutn, List.take_zero, List.length_nil, w64, tmod_pos, tdiv_pos, ↓if_pos, ↓if_neg, if_pos, if_neg, if_true, if_false, Option.bind_some, Bool.false_eq_true, Bool.not_true, Bool.not_false, ↓reduceIte]
  | succ n ih =>
    intro k hk hn
    obtain ⟨k, rfl⟩ : ∃ m, k = m + 1 := ⟨k - 1, by omega⟩
    have e : (l.take (n + 1)).length = n + 1 := by rw [List.length_take]; omega
    have e1 : (((n + 1 : Nat) : Int) - 1) = (n : Int) := by omega
    have e2 : rd (l.take (n + 1)) (n : Int) = rd l (n : Int) := by rw [rd_take, if_pos (by omega)]
    have e3 : (l.take (n + 1)).take n = l.take n := by rw [List.take_take]; congr 1; omega
    by_cases h : rd l (n : Int) = 0
    · simp (disch := omega) only [impl_trimmed.l0, e, e1, e2, cutn, Int.toNat_natCast, e3, h, w64, tmod_pos, tdiv_pos, ↓if_pos, ↓if_neg, if_pos, if_neg, if_true, if_false, Option.bind_some, Bool.false_eq_true, Bool.not_true, Bool.not_false, ↓reduceIte]
      exact ih k (by omega) (by omega)
    · simp (disch := omega) only [impl_trimmed.l0, e, e1, e2, cutn, Int.toNat_natCast, h, w64, tmod_pos, tdiv_pos, ↓if_pos, ↓if_neg, if_pos, if_neg, if_true, if_false, Option.bind_some, Bool.false_eq_true, Bool.not_true, Bool.not_false, ↓reduceIte]
theorem trimmed_ok {l : List Int} (hl : l.length ≤ 1048576) : Ev (fun k => impl_trimmed.f k l) (cut l) := by
  refine ⟨l.length + 1, fun k hk => ?_⟩
  have h := trimmed_l0 l (by omega) l.length k (by omega) (Nat.le_refl _)
  rw [List.take_length] at h
  exact h
theorem l01Copy_l0 (l : List Int) (hl : l.length ≤ 1048576) (d : Nat) : ∀ (k i : Nat), d < k → l.length - i = d → i ≤ l.length → spec_l01Copy.l0 k l (l.take i) i = some l := by
  induction d with
  | zero =>
    intro k i hk hd hi
    obtain ⟨k, rfl⟩ : ∃ m, k = m + 1 := ⟨k - 1, by omega⟩
    simp (disch := omega) only [spec_l01Copy.l0, w64, tmod_pos, tdiv_pos, ↓if_pos, ↓if_neg, if_pos, if_neg, if_true, if_false, Option.bind_some, Bool.false_eq_true, Bool.not_true, Bool.not_false, ↓reduceIte]
    rw [List.take_of_length_le (by omega)]
  | succ d ih =>
    intro k i hk hd hi
    obtain ⟨k, rfl⟩ : ∃ m, k = m + 1 := ⟨k - 1, by omega⟩
    have hlen : (l.take i).length = i := by rw [List.length_take]; omega
    simp (disch := omega) only [spec_l01Copy.l0, w64, tmod_pos, tdiv_pos, ↓if_pos, ↓if_neg, if_pos, if_neg, if_true, if_false, Option.bind_some, Bool.false_eq_true, Bool.not_true, Bool.not_false, ↓reduceIte]
    rw [← take_rd (by omega)]
    exact ih k (i + 1) (by omega) (by omega) (by omega)
theorem l03Cut_l0 (l : List Int) (hl : l.length ≤ 1048576) (n : Nat) : ∀ k, 2 * l.length + n + 2 < k → n ≤ l.length → spec_l03Cut.l0 k l n = some (cutn l n) := by
  have hc : ∀ (k n : Nat), n ≤ l.length → l.length < k → spec_l01Copy.f k (l.take n) = some (l.take n) := by
    intro k n hn hk
    have e : (l.take n).length = n := by rw [List.length_take]; omega
    have h := l01Copy_l0 (l.take n) (by omega) (l.take n).length k 0 (by omega) (by omega) (by omega)
    exact h
  induction n with
  | zero =>
    intro k hk hn
    obtain ⟨k, rfl⟩ : ∃ m, k = m + 1 := ⟨k - 1, by omega⟩
    have h := hc k 0 (by omega) (by omega)
    simp (disch := omega) only [spec_l03Cut.l0, cutn, Int.toNat_natCast, h, w64, tmod_pos, tdiv_pos, ↓if_pos, ↓if_neg, if_pos, if_neg, if_true, if_false, Option.bind_some, Bool.false_eq_true, Bool.not_true, Bool.not_false, ↓reduceIte]
    rfl
  | succ n ih =>
    intro k hk hn
    obtain ⟨k, rfl⟩ : ∃ m, k = m + 1 := ⟨k - 1, by omega⟩
    have e1 : (((n + 1 : Nat) : Int) - 1) = (n : Int) := by omega
    have h' := hc k (n + 1) (by omega) (by omega)
    by_cases h : rd l (n : Int) = 0
    · simp (disch := omega) only [spec_l03Cut.l0, e1, cutn, h, w64, tmod_pos, tdiv_pos, ↓if_pos, ↓if_neg, if_pos, if_neg, if_true, if_false, Option.bind_some, Bool.false_eq_true, Bool.not_true, Bool.not_false, ↓reduceIte]
      exact ih k (by omega) (by omega)
    · simp (disch := omega) only [spec_l03Cut.l0, e1, cutn, Int.toNat_natCast, h, h', w64, tmod_pos, tdiv_pos, ↓if_pos, ↓if_neg, if_pos, if_neg, if_true, if_false, Option.bind_some, Bool.false_eq_true, Bool.not_true, Bool.not_false, ↓reduceIte]
theorem l03Cut_ok {l : List Int} (hl : l.length ≤ 1048576) : Ev (fun k => spec_l03Cut.f k l) (cut l) := by
  refine ⟨3 * l.length + 3, fun k hk => ?_⟩
  unfold spec_l03Cut.f
  exact l03Cut_l0 l hl l.length k (by omega) (Nat.le_refl _)
end

end Go.Proofs.Ytigfpkbdkdihbaa.M
