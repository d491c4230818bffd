import Derived.Test.YtjfmclpfdijkiaaG0
/- What the laws' own helpers compute on lists: copies, comparisons, marks. -/
import Derived.Test.YtjfmclpfdijkiaaZFnExactComposeMa
import Derived.Test.YtjfmclpfdijkiaaZFnExactComposeMb
import Derived.Test.YtjfmclpfdijkiaaWWords
import Derived.Test.YtjfmclpfdijkiaaWMore
import Derived.Test.YtjfmclpfdijkiaaZFnExactCompose0
namespace Go.Proofs.Ytjfmclpfdijkiaa.M
open Go.RowKit Go.Proofs.Ytjfmclpfdijkiaa.P Go.Proofs.YtjfmclpfdijkiaaW.PrintWords Go.Proofs.YtjfmclpfdijkiaaW.PrintLast Go.Proofs.YtjfmclpfdijkiaaW.PrintMore
set_option linter.unusedVariables false
set_option linter.unusedSimpArgs false

/-- A call whose answer is known, ahead of what follows. -/
theorem bnd {α β : Type} {x : Option α} {r : α} (h : x = some r) (F : α → Option β) : x.bind F = F r := by rw [h]; rfl
theorem bnd1 {γ α β : Type} {g : γ → Option α} {r : γ → α} (h : ∀ x, g x = some (r x)) (x : γ) (F : α → Option β) : (g x).bind F = F (r x) := by rw [h]; rfl
theorem bnd2 {γ δ α β : Type} {g : γ → δ → Option α} {r : γ → δ → α} (h : ∀ x y, g x y = some (r x y)) (x : γ) (y : δ) (F : α → Option β) : (g x y).bind F = F (r x y) := by rw [h]; rfl
theorem rd_nat (l : List Int) (i : Nat) : rd l (i : Int) = l.getD i 0 := by unfold rd; rw [Int.toNat_natCast]
theorem rd_at {l : List Int} {i : Nat} (h : i < l.length) : rd l (i : Int) = l[i] := by
  rw [rd_nat, List.getD_eq_getElem?_getD, List.getElem?_eq_getElem h]
  rfl
theorem rd_mem {l : List Int} {i : Int} (h0 : 0 ≤ i) (h : i < (l.length : Int)) : rd l i ∈ l := by
  obtain ⟨n, rfl⟩ := Int.eq_ofNat_of_zero_le h0
  rw [rd_at (by omega)]
  exact List.getElem_mem _
theorem take_rd {l : List Int} {i : Nat} (h : i < l.length) : l.take (i + 1) = l.take i ++ [rd l (i : Int)] := by
  rw [rd_at h, List.take_succ_eq_append_getElem h]
theorem w64_succ {i : Nat} (h : i < 9223372036854775807) : wrap64 ((i : Int) + 1) = ((i + 1 : Nat) : Int) := by
  rw [w64 (by omega) (by omega)]; rfl
/-- The numbers from c on, n of them. -/
def marks (c : Int) (n : Nat) : List Int := (List.range n).map fun j : Nat => c + (j : Int)
theorem marks_length (c : Int) (n : Nat) : (marks c n).length = n := by simp [marks]
theorem marks_rd {c : Int} {n i : Nat} (h : i < n) : rd (marks c n) (i : Int) = c + i := by
  rw [rd_at (by rw [marks_length]; exact h)]
  simp [marks]
theorem toIntS_l0 (l : List Int) (hl : l.length ≤ 1048576) (d : Nat) : ∀ (k i : Nat) (x : List Int), d < k → l.length - i = d → i ≤ l.length → x.length = l.length → x.take i = l.take i → laws_toIntS.l0 k l x i = some l := by
  induction d with
  | zero =>
    intro k i x hk hd hi hx ht
    obtain ⟨k, rfl⟩ : ∃ m, k = m + 1 := ⟨k - 1, by omega⟩
    obtain rfl : i = l.length := by omega
    rw [List.take_of_length_le (by omega), List.take_of_length_le (by omega)] at ht
    simp (disch := omega) only [laws_toIntS.l0, w64, tmod_pos, tdiv_pos, ↓if_pos, ↓if_neg, if_pos, if_neg, if_true, if_false, Option.bind_some, Bool.false_eq_true, Bool.not_true, Bool.not_false, ↓reduceIte]
    rw [ht]
  | succ d ih =>
    intro k i x hk hd hi hx ht
    obtain ⟨k, rfl⟩ : ∃ m, k = m + 1 := ⟨k - 1, by omega⟩
    simp (disch := omega) only [laws_toIntS.l0, Int.toNat_natCast, w64, tmod_pos, tdiv_pos, ↓if_pos, ↓if_neg, if_pos, if_neg, if_true, if_false, Option.bind_some, Bool.false_eq_true, Bool.not_true, Bool.not_false, ↓reduceIte]
    refine ih k (i + 1) _ (by omega) (by omega) (by omega) (by rw [List.length_set, hx]) ?_
    rw [take_rd (l := l) (i := i) (by omega), ← ht, List.take_succ_eq_append_getElem (by rw [List.length_set]; omega)]
    simp [List.take_set_of_le]
theorem toIntS_ok {l : List Int} (hl : l.length ≤ 1048576) : Ev (fun k => laws_toIntS.f k l) l := by
  refine ⟨l.length + 1, fun k hk => ?_⟩
  unfold laws_toIntS.f
  simp (disch := omega) only [Int.toNat_natCast, w64, tmod_pos, tdiv_pos, ↓if_pos, ↓if_neg, if_pos, if_neg, if_true, if_false, Option.bind_some, Bool.false_eq_true, Bool.not_true, Bool.not_false, ↓reduceIte]
  exact toIntS_l0 l hl l.length k 0 _ (by omega) (by omega) (by omega) (by simp) (by simp)
theorem eqIntS_l0 (l : List Int) (hl : l.length ≤ 9000000000000000000) (d : Nat) : ∀ (k i : Nat), d < k → l.length - i = d → i ≤ l.length → laws_eqIntS.l0 k l l i = some true := by
  induction d with
  | zero =>
    intro k i hk hd hi
    obtain ⟨k, rfl⟩ : ∃ m, k = m + 1 := ⟨k - 1, by omega⟩
    simp (disch := omega) only [laws_eqIntS.l0, w64, tmod_pos, tdiv_pos, ↓if_pos, ↓if_neg, if_pos, if_neg, if_true, if_false, Option.bind_some, Bool.false_eq_true, Bool.not_true, Bool.not_false, ↓reduceIte]
  | succ d ih =>
    intro k i hk hd hi
    obtain ⟨k, rfl⟩ : ∃ m, k = m + 1 := ⟨k - 1, by omega⟩
    simp (disch := omega) only [laws_eqIntS.l0, w64, tmod_pos, tdiv_pos, ↓if_pos, ↓if_neg, if_pos, if_neg, if_true, if_false, Option.bind_some, Bool.false_eq_true, Bool.not_true, Bool.not_false, ↓reduceIte]
    exact ih k (i + 1) (by omega) (by omega) (by omega)
theorem eqIntS_ok {l : List Int} (hl : l.length ≤ 9000000000000000000) : Ev (fun k => laws_eqIntS.f k l l) true := by
  refine ⟨l.length + 1, fun k hk => ?_⟩
  unfold laws_eqIntS.f
  simp (disch := omega) only [w64, tmod_pos, tdiv_pos, ↓if_pos, ↓if_neg, if_pos, if_neg, if_true, if_false, Option.bind_some, Bool.false_eq_true, Bool.not_true, Bool.not_false, ↓reduceIte]
  exact eqIntS_l0 l hl l.length k 0 (by omega) (by omega) (by omega)
theorem markIntS_l0 (c : Int) (hc : 0 ≤ c) (hc' : c ≤ 1000000000) (d : Nat) : ∀ (k i : Nat) (x : List Int), d < k → x.length ≤ 1073741824 → x.length - i = d → i ≤ x.length → x.take i = marks c i → laws_markIntS.l0 k x (c + i) i = some (c + x.length, marks c x.length) := by
  induction d with
  | zero =>
    intro k i x hk hx hd hi ht
    obtain ⟨k, rfl⟩ : ∃ m, k = m + 1 := ⟨k - 1, by omega⟩
    obtain rfl : i = x.length := by omega
    rw [List.take_of_length_le (by omega)] at ht
    simp (disch := omega) only [laws_markIntS.l0, w64, tmod_pos, tdiv_pos, ↓if_pos, ↓if_neg, if_pos, if_neg, if_true, if_false, Option.bind_some, Bool.false_eq_true, Bool.not_true, Bool.not_false, ↓reduceIte]
    rw [← ht]
  | succ d ih =>
    intro k i x hk hx hd hi ht
    obtain ⟨k, rfl⟩ : ∃ m, k = m + 1 := ⟨k - 1, by omega⟩
    simp (disch := omega) only [laws_markIntS.l0, Int.toNat_natCast, w64, tmod_pos, tdiv_pos, ↓if_pos, ↓if_neg, if_pos, if_neg, if_true, if_false, Option.bind_some, Bool.false_eq_true, Bool.not_true, Bool.not_false, ↓reduceIte]
    have h := ih k (i + 1) (x.set i (c + i)) (by omega) (by rw [List.length_set]; omega) (by rw [List.length_set]; omega) (by rw [List.length_set]; omega) (by
      rw [List.take_succ_eq_append_getElem (by rw [List.length_set]; omega)]
      have e : marks c (i + 1) = marks c i ++ [c + (i : Int)] := by simp [marks, List.range_succ]
      rw [e, ← ht]
      simp [List.take_set_of_le])
    rw [List.length_set] at h
    rw [show (c + (i : Int) + 1) = c + ((i + 1 : Nat) : Int) by omega, show ((i : Int) + 1) = ((i + 1 : Nat) : Int) by omega]
    exact h
theorem markIntS_ok {l : List Int} (hl : l.length ≤ 1073741824) {c : Int} (hc : 0 ≤ c) (hc' : c ≤ 1000000000) : Ev (fun k => laws_markIntS.f k l c) (c + l.length, marks c l.length) := by
  refine ⟨l.length + 1, fun k hk => ?_⟩
  unfold laws_markIntS.f
  have h := markIntS_l0 c hc hc' l.length k 0 l (by omega) hl (by omega) (by omega) (by simp [marks])
  simpa using h
theorem heldIntS_l0 (c : Int) (hc : 0 ≤ c) (hc' : c ≤ 1000000000) (n : Nat) (hn : n ≤ 1073741824) (d : Nat) : ∀ (k i : Nat), d < k → n - i = d → i ≤ n → laws_heldIntS.l0 k (marks c n) (c + i) i = some (c + n) := by
  have hl := marks_length c n
  induction d with
  | zero =>
    intro k i hk hd hi
    obtain ⟨k, rfl⟩ : ∃ m, k = m + 1 := ⟨k - 1, by omega⟩
    obtain rfl : i = n := by omega
    simp (disch := omega) only [laws_heldIntS.l0, w64, tmod_pos, tdiv_pos, ↓if_pos, ↓if_neg, if_pos, if_neg, if_true, if_false, Option.bind_some, Bool.false_eq_true, Bool.not_true, Bool.not_false, ↓reduceIte]
  | succ d ih =>
    intro k i hk hd hi
    obtain ⟨k, rfl⟩ : ∃ m, k = m + 1 := ⟨k - 1, by omega⟩
    have h := ih k (i + 1) (by omega) (by omega) (by omega)
    simp (disch := omega) only [laws_heldIntS.l0, marks_rd (show i < n by omega), w64, tmod_pos, tdiv_pos, ↓if_pos, ↓if_neg, if_pos, if_neg, if_true, if_false, Option.bind_some, Bool.false_eq_true, Bool.not_true, Bool.not_false, ↓reduceIte]
    rw [show (c + (i : Int) + 1) = c + ((i + 1 : Nat) : Int) by omega, show ((i : Int) + 1) = ((i + 1 : Nat) : Int) by omega]
    exact h
theorem heldIntS_ok {n : Nat} (hn : n ≤ 1073741824) {c : Int} (hc : 0 ≤ c) (hc' : c ≤ 1000000000) : Ev (fun k => laws_heldIntS.f k (marks c n) c) (c + n) := by
  refine ⟨n + 1, fun k hk => ?_⟩
  unfold laws_heldIntS.f
  have h := heldIntS_l0 c hc hc' n hn n k 0 (by omega) (by omega) (by omega)
  simpa using h

end Go.Proofs.Ytjfmclpfdijkiaa.M
