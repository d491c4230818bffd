import Derived.Test.YtjfmclpfdijkiaaG0
/- What PolyOk, Degree, EvalPoly and ShiftPoly come to, of the program and of the reference. -/
import Derived.Test.YtjfmclpfdijkiaaZFnExactShiftPolyMa
import Derived.Test.YtjfmclpfdijkiaaZFnExactShiftPolyMb
import Derived.Test.YtjfmclpfdijkiaaZFnExactShiftPolyMc
import Derived.Test.YtjfmclpfdijkiaaZFnExactShiftPolyMd
import Derived.Test.YtjfmclpfdijkiaaZFnExactShiftPolyMh
import Derived.Test.YtjfmclpfdijkiaaZFnExactShiftPolyMr
import Derived.Test.YtjfmclpfdijkiaaZFnExactShiftPolyMx
import Derived.Test.YtjfmclpfdijkiaaZFnExactShiftPolyMy
import Derived.Test.YtjfmclpfdijkiaaWWords
import Derived.Test.YtjfmclpfdijkiaaWMore
import Derived.Test.YtjfmclpfdijkiaaZFnExactShiftPoly3
import Derived.Test.YtjfmclpfdijkiaaZFnExactShiftPoly2
import Derived.Test.YtjfmclpfdijkiaaZFnExactShiftPoly0
import Derived.Test.YtjfmclpfdijkiaaZFnExactShiftPoly4
namespace Go.Proofs.Ytjfmclpfdijkiaa.M
open Go.RowKit Go.Proofs.Ytjfmclpfdijkiaa.P Go.Proofs.YtjfmclpfdijkiaaW.PrintWords Go.Proofs.YtjfmclpfdijkiaaW.PrintLast Go.Proofs.YtjfmclpfdijkiaaW.PrintMore
set_option linter.unusedVariables false
set_option linter.unusedSimpArgs false

theorem tr_len (p : Int) {l : List Int} (h : l.length ≤ 1048576) : (tr p l).length ≤ 1048576 := by
  have := cut_len (mk l.length fun i => rd l (i : Int) % p)
  rw [mk_length] at this
  unfold tr; omega
theorem dv_len (p : Int) (l : List Int) : (dv p l).length ≤ l.length := by
  have := cut_len (mk (l.length - 1) fun i => ((i + 1 : Nat) : Int) * rd l ((i + 1 : Nat) : Int) % p)
  rw [mk_length] at this
  unfold dv; omega
section
variable {f p g t : Int}

/-! ### EvalPoly -/
/-- The sum of the first n terms. -/
def sm (l : List Int) (x : Int) : Nat → Int
  | 0 => 0
  | n + 1 => sm l x n + rd l (n : Int) * x ^ n
/-- Horner's way: the value of what stands from i on, n terms. -/
def hor (p : Int) (l : List Int) (x : Int) (i : Nat) : Nat → Int
  | 0 => 0
  | n + 1 => (hor p l x (i + 1) n * x + rd l (i : Int)) % p
theorem hor_rng {p : Int} (hp : 0 < p) (l : List Int) (x : Int) (i n : Nat) : 0 ≤ hor p l x i n ∧ hor p l x i n < p := by
  cases n with
  | zero => exact ⟨Int.le_refl _, hp⟩
  | succ n => exact emod_rng hp _
theorem sm_hor (p : Int) (l : List Int) (x : Int) (n : Nat) : ∀ i, Cg p (sm l x i + hor p l x i n * x ^ i) (sm l x (i + n)) := by
  induction n with
  | zero => intro i; simp only [hor, Int.zero_mul, Int.add_zero, Nat.add_zero]; exact Cg.refl p _
  | succ n ih =>
    intro i
    have h := ih (i + 1)
    rw [show i + 1 + n = i + (n + 1) by omega] at h
    refine Cg.trans ?_ h
    show Cg p (sm l x i + (hor p l x (i + 1) n * x + rd l (i : Int)) % p * x ^ i) _
    have e : sm l x (i + 1) + hor p l x (i + 1) n * x ^ (i + 1) = sm l x i + (hor p l x (i + 1) n * x + rd l (i : Int)) * x ^ i := by
      rw [show sm l x (i + 1) = sm l x i + rd l (i : Int) * x ^ i from rfl, Int.pow_succ]
      clear h ih
      generalize hor p l x (i + 1) n = u
      generalize x ^ i = v
      grind
    rw [e]
    exact (Cg.refl p _).add ((Cg.mod p _).mul (Cg.refl p _))
theorem sm_cg {p : Int} (l : List Int) {x y : Int} (h : Cg p x y) (n : Nat) : Cg p (sm l x n) (sm l y n) := by
  induction n with
  | zero => exact Cg.refl p _
  | succ n ih => exact ih.add ((Cg.refl p _).mul (h.pow n))
/-- The polynomial's value. -/
def vl (p : Int) (l : List Int) (x : Int) : Int := sm l x l.length % p
theorem vl_mod (p : Int) (l : List Int) (x : Int) : vl p l (x % p) = vl p l x := (sm_cg l (Cg.mod p x) _).emod_eq
theorem vl_rng {p : Int} (hp : 0 < p) (l : List Int) (x : Int) : 0 ≤ vl p l x ∧ vl p l x < p := emod_rng hp _

/-! ### ShiftPoly -/
def sh (l : List Int) (s : Int) : List Int × Bool :=
  if l.length = 0 then ([], true) else if s < 0 then (l.drop (-s).toNat, true) else if 400 - (l.length : Int) < s then ([], false) else (List.replicate s.toNat 0 ++ l, true)
theorem sh_len {p : Int} {l : List Int} (hl : pk p l = true) (s : Int) : (sh l s).1.length ≤ 1048576 := by
  have := pk_len hl
  unfold sh
  split
  · simp
  split
  · simp only [List.length_drop]; omega
  split
  · simp
  · simp only [List.length_append, List.length_replicate]; omega
theorem iShift_ok (h : FI f p g t) {l : List Int} (hl : pk p l = true) {s : Int} (h0 : -9223372036854775808 ≤ s) (h1 : s ≤ 9223372036854775807) : Ev (fun k => impl_ShiftPoly.f k f l s) (sh l s) := by
  have hlen := pk_len hl
  obtain ⟨K1, hK⟩ := polyField1 h (a := l) (by omega)
  rw [if_pos hl] at hK
  refine ⟨K1 + 1, fun k hk => ?_⟩
  obtain ⟨k, rfl⟩ : ∃ m, k = m + 1 := ⟨k - 1, by omega⟩
  unfold impl_ShiftPoly.f sh
  by_cases c0 : l.length = 0
  · simp (disch := omega) only [hK, impl_ShiftPoly.j0, w64, tmod_pos, tdiv_pos, ↓if_pos, ↓if_neg, if_pos, if_neg, if_true, if_false, Option.bind_some, Bool.false_eq_true, Bool.not_true, Bool.not_false, ↓reduceIte]
  by_cases c1 : s < -(l.length : Int)
  · have hd : decide (s < -(l.length : Int)) = true := decide_eq_true c1
    simp (disch := omega) only [hK, impl_ShiftPoly.j0, hd, w64, tmod_pos, tdiv_pos, ↓if_pos, ↓if_neg, if_pos, if_neg, if_true, if_false, Option.bind_some, Bool.false_eq_true, Bool.not_true, Bool.not_false, ↓reduceIte]
    rw [List.drop_of_length_le (by omega)]
  have hd : decide (s < -(l.length : Int)) = false := decide_eq_false c1
  by_cases c2 : s < 0
  · have e : (l.drop (-s).toNat).length = l.length - (-s).toNat := List.length_drop
    simp (disch := omega) only [hK, impl_ShiftPoly.j0, hd, List.length_nil, e, List.nil_append, w64, tmod_pos, tdiv_pos, ↓if_pos, ↓if_neg, if_pos, if_neg, if_true, if_false, Option.bind_some, Bool.false_eq_true, Bool.not_true, Bool.not_false, ↓reduceIte]
  by_cases c3 : 400 - (l.length : Int) < s
  · simp (disch := omega) only [hK, impl_ShiftPoly.j0, hd, w64, tmod_pos, tdiv_pos, ↓if_pos, ↓if_neg, if_pos, if_neg, if_true, if_false, Option.bind_some, Bool.false_eq_true, Bool.not_true, Bool.not_false, ↓reduceIte]
  · simp (disch := omega) only [hK, impl_ShiftPoly.j0, hd, List.length_replicate, w64, tmod_pos, tdiv_pos, ↓if_pos, ↓if_neg, if_pos, if_neg, if_true, if_false, Option.bind_some, Bool.false_eq_true, Bool.not_true, Bool.not_false, ↓reduceIte]
theorem iShift_no {l : List Int} (h : (f < 0 ∨ 9 ≤ f) ∨ ∃ p g t, FI f p g t ∧ pk p l = false) (hl : l.length ≤ 1048576) (s : Int) : Ev (fun k => impl_ShiftPoly.f k f l s) ([], false) := by
  rcases h with h | ⟨p, g, t, h, hp⟩
  · obtain ⟨K1, h1⟩ := polyField_no h [l]
    refine ⟨K1, fun k hk => ?_⟩
    unfold impl_ShiftPoly.f
    simp (disch := omega) only [h1, w64, tmod_pos, tdiv_pos, ↓if_pos, ↓if_neg, if_pos, if_neg, if_true, if_false, Option.bind_some, Bool.false_eq_true, Bool.not_true, Bool.not_false, ↓reduceIte]
  · obtain ⟨K1, h1⟩ := polyField1 h (a := l) hl
    rw [if_neg (by simp [hp])] at h1
    refine ⟨K1, fun k hk => ?_⟩
    unfold impl_ShiftPoly.f
    simp (disch := omega) only [h1, w64, tmod_pos, tdiv_pos, ↓if_pos, ↓if_neg, if_pos, if_neg, if_true, if_false, Option.bind_some, Bool.false_eq_true, Bool.not_true, Bool.not_false, ↓reduceIte]
theorem sShift_l1 (l : List Int) (hl : l.length ≤ 400) (n : Nat) (hn : n ≤ 400) (d : Nat) : ∀ (k i : Nat), d < k → l.length - i = d → i ≤ l.length →
    spec_ShiftPoly.l1 k l (List.replicate n 0 ++ l.take i) i = some (List.replicate n 0 ++ l, true) := by
  induction d with
  | zero =>
    intro k i hk hd hi
    obtain ⟨k, rfl⟩ : ∃ m, k = m + 1 := ⟨k - 1, by omega⟩
    obtain rfl : i = l.length := by omega
    simp (disch := omega) only [spec_ShiftPoly.l1, w64, tmod_pos, tdiv_pos, ↓if_pos, ↓if_neg, if_pos, if_neg, if_true, if_false, Option.bind_some, Bool.false_eq_true, Bool.not_true, Bool.not_false, ↓reduceIte]
    rw [List.take_of_length_le (by omega)]
  | succ d ih =>
    intro k i hk hd hi
    obtain ⟨k, rfl⟩ : ∃ m, k = m + 1 := ⟨k - 1, by omega⟩
    have hlen : (List.replicate n (0 : Int) ++ l.take i).length = n + i := by rw [List.length_append, List.length_replicate, List.length_take]; omega
    simp (disch := omega) only [spec_ShiftPoly.l1, w64, tmod_pos, tdiv_pos, ↓if_pos, ↓if_neg, if_pos, if_neg, if_true, if_false, Option.bind_some, Bool.false_eq_true, Bool.not_true, Bool.not_false, ↓reduceIte]
    rw [List.append_assoc, ← take_rd (by omega)]
    exact ih k (i + 1) (by omega) (by omega) (by omega)
theorem sShift_l0 (l : List Int) (hl : l.length ≤ 400) (n : Nat) (hn : n ≤ 400) (d : Nat) : ∀ (k i : Nat), d + l.length + 1 < k → n - i = d → i ≤ n →
    spec_ShiftPoly.l0 k l n (List.replicate i 0) i = some (List.replicate n 0 ++ l, true) := by
  induction d with
  | zero =>
    intro k i hk hd hi
    obtain ⟨k, rfl⟩ : ∃ m, k = m + 1 := ⟨k - 1, by omega⟩
    obtain rfl : i = n := by omega
    simp (disch := omega) only [spec_ShiftPoly.l0, w64, tmod_pos, tdiv_pos, ↓if_pos, ↓if_neg, if_pos, if_neg, if_true, if_false, Option.bind_some, Bool.false_eq_true, Bool.not_true, Bool.not_false, ↓reduceIte]
    have e := sShift_l1 l hl i hn l.length k 0 (by omega) (by omega) (by omega)
    rw [List.take_zero, List.append_nil] at e
    exact e
  | succ d ih =>
    intro k i hk hd hi
    obtain ⟨k, rfl⟩ : ∃ m, k = m + 1 := ⟨k - 1, by omega⟩
    have hlen : (List.replicate i (0 : Int)).length = i := List.length_replicate
    simp (disch := omega) only [spec_ShiftPoly.l0, w64, tmod_pos, tdiv_pos, ↓if_pos, ↓if_neg, if_pos, if_neg, if_true, if_false, Option.bind_some, Bool.false_eq_true, Bool.not_true, Bool.not_false, ↓reduceIte]
    rw [← List.replicate_succ']
    exact ih k (i + 1) (by omega) (by omega) (by omega)
theorem sShift_ok (h : FI f p g t) {l : List Int} (hl : pk p l = true) {s : Int} (h0 : -9223372036854775808 ≤ s) (h1 : s ≤ 9223372036854775807) : Ev (fun k => spec_ShiftPoly.f k f l s) (sh l s) := by
  have hlen := pk_len hl
  obtain ⟨K1, hK⟩ := PolyOk_ok h (a := l) (by omega)
  rw [hl] at hK
  obtain ⟨K2, hK2⟩ := l01Copy_ok (l := l.drop (-s).toNat) (by rw [List.length_drop]; omega)
  refine ⟨K1 + K2 + 1000, fun k hk => ?_⟩
  unfold spec_ShiftPoly.f sh
  by_cases c0 : l.length = 0
  · simp (disch := omega) only [hK, w64, tmod_pos, tdiv_pos, ↓if_pos, ↓if_neg, if_pos, if_neg, if_true, if_false, Option.bind_some, Bool.false_eq_true, Bool.not_true, Bool.not_false, ↓reduceIte]
  by_cases c1 : s ≤ -(l.length : Int)
  · simp (disch := omega) only [hK, w64, tmod_pos, tdiv_pos, ↓if_pos, ↓if_neg, if_pos, if_neg, if_true, if_false, Option.bind_some, Bool.false_eq_true, Bool.not_true, Bool.not_false, ↓reduceIte]
    rw [List.drop_of_length_le (by omega)]
  by_cases c2 : s < 0
  · simp (disch := omega) only [hK, hK2, w64, tmod_pos, tdiv_pos, ↓if_pos, ↓if_neg, if_pos, if_neg, if_true, if_false, Option.bind_some, Bool.false_eq_true, Bool.not_true, Bool.not_false, ↓reduceIte]
  by_cases c3 : 400 - (l.length : Int) < s
  · simp (disch := omega) only [hK, w64, tmod_pos, tdiv_pos, ↓if_pos, ↓if_neg, if_pos, if_neg, if_true, if_false, Option.bind_some, Bool.false_eq_true, Bool.not_true, Bool.not_false, ↓reduceIte]
  · simp (disch := omega) only [hK, w64, tmod_pos, tdiv_pos, ↓if_pos, ↓if_neg, if_pos, if_neg, if_true, if_false, Option.bind_some, Bool.false_eq_true, Bool.not_true, Bool.not_false, ↓reduceIte]
    obtain ⟨n, rfl⟩ := Int.eq_ofNat_of_zero_le (show 0 ≤ s by omega)
    rw [Int.toNat_natCast]
    exact sShift_l0 l hlen n (by omega) n k 0 (by omega) (by omega) (by omega)
theorem sShift_no {l : List Int} (h : (f < 0 ∨ 9 ≤ f) ∨ ∃ p g t, FI f p g t ∧ pk p l = false) (hl : l.length ≤ 1048576) (s : Int) : Ev (fun k => spec_ShiftPoly.f k f l s) ([], false) := by
  rcases h with h | ⟨p, g, t, h, hp⟩
  · obtain ⟨K1, h1⟩ := PolyOk_no h l
    refine ⟨K1, fun k hk => ?_⟩
    unfold spec_ShiftPoly.f
    simp (disch := omega) only [h1, w64, tmod_pos, tdiv_pos, ↓if_pos, ↓if_neg, if_pos, if_neg, if_true, if_false, Option.bind_some, Bool.false_eq_true, Bool.not_true, Bool.not_false, ↓reduceIte]
  · obtain ⟨K1, h1⟩ := PolyOk_ok h (a := l) hl
    rw [hp] at h1
    refine ⟨K1, fun k hk => ?_⟩
    unfold spec_ShiftPoly.f
    simp (disch := omega) only [h1, w64, tmod_pos, tdiv_pos, ↓if_pos, ↓if_neg, if_pos, if_neg, if_true, if_false, Option.bind_some, Bool.false_eq_true, Bool.not_true, Bool.not_false, ↓reduceIte]
end

end Go.Proofs.Ytjfmclpfdijkiaa.M
