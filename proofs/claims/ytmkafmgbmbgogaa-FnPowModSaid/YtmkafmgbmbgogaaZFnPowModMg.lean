import Derived.Test.YtmkafmgbmbgogaaZFnPowModG
/- What GcdPoly, PowMod and SquareFree come to, of the program and of the reference. -/
import Derived.Test.YtmkafmgbmbgogaaZFnPowModMa
import Derived.Test.YtmkafmgbmbgogaaZFnPowModMb
import Derived.Test.YtmkafmgbmbgogaaZFnPowModMc
import Derived.Test.YtmkafmgbmbgogaaZFnPowModMd
import Derived.Test.YtmkafmgbmbgogaaZFnPowModMh
import Derived.Test.YtmkafmgbmbgogaaZFnPowModMr
import Derived.Test.YtmkafmgbmbgogaaZFnPowModMx
import Derived.Test.YtmkafmgbmbgogaaZFnPowModMy
import Derived.Test.YtmkafmgbmbgogaaZFnPowModMm
import Derived.Test.YtmkafmgbmbgogaaZFnPowModMw
import Derived.Test.YtmkafmgbmbgogaaZFnPowModWWords
import Derived.Test.YtmkafmgbmbgogaaZFnPowModWMore
import Derived.Test.YtmkafmgbmbgogaaZFnPowMod4
import Derived.Test.YtmkafmgbmbgogaaZFnPowMod1
import Derived.Test.YtmkafmgbmbgogaaZFnPowMod2
import Derived.Test.YtmkafmgbmbgogaaZFnPowMod0
import Derived.Test.YtmkafmgbmbgogaaZFnPowMod3
namespace Go.Proofs.Ytmkafmgbmbgogaa.M
open Go.RowKit Go.Proofs.Ytmkafmgbmbgogaa.P Go.Proofs.YtmkafmgbmbgogaaW.PrintWords Go.Proofs.YtmkafmgbmbgogaaW.PrintLast Go.Proofs.YtmkafmgbmbgogaaW.PrintMore
set_option linter.unusedVariables false
set_option linter.unusedSimpArgs false

def rm (p : Int) (a b : List Int) : List Int := (dm p a b).2
section
variable {f p g t : Int}

/-! ### SquareFree -/

/-! ### PowMod -/
/-- Squares and products, each taken modulo b. -/
def powm (p : Int) (b : List Int) : Nat → Nat → List Int → List Int → List Int
  | 0, _, o, _ => o
  | n + 1, e, o, x => if e = 0 then o else powm p b n (e / 2) (if e % 2 = 1 then rm p (ml p o x) b else o) (rm p (ml p x x) b)
/-- What is kept while the power is made. -/
def Rd (p : Int) (b x : List Int) : Prop := x.length < b.length ∧ els p x = true ∧ top x
theorem rm_Rd {p : Int} (hp : 0 < p) {b : List Int} (h0 : 1 ≤ b.length) {x : List Int} (ex : els p x = true) (tx : top x) : Rd p b (rm p x b) := dm_rem hp ex tx h0
theorem rm_ml {p : Int} (hp : 0 < p) {b : List Int} (h0 : 1 ≤ b.length) (x y : List Int) : Rd p b (rm p (ml p x y) b) := rm_Rd hp h0 (ml_els hp x y) (ml_top p x y)
theorem powm_Rd {p : Int} (hp : 0 < p) {b : List Int} (h0 : 1 ≤ b.length) (n : Nat) : ∀ e o x, Rd p b o → Rd p b (powm p b n e o x) := by
  induction n with
  | zero => intro e o x ho; exact ho
  | succ n ih =>
    intro e o x ho
    rw [powm]
    split
    · exact ho
    · refine ih _ _ _ ?_
      split
      · exact rm_ml hp h0 _ _
      · exact ho
/-- What PowMod answers for two polynomials. -/
def pmo (p : Int) (a : List Int) (e : Int) (b : List Int) : List Int × Bool :=
  if b.length = 0 ∨ e < 0 ∨ 1000000 < e then ([], false) else (powm p b (e.toNat + 1) e.toNat (rm p [1] b) (rm p a b), true)
theorem one_top : top [1] := .inr (by decide)
theorem one_els {p : Int} (hp : 1 < p) : els p [1] = true := by simp [els, hp]
theorem iPow_l0 (h : IsF p g t) {b : List Int} (hb : pk p b = true) (h0 : 1 ≤ b.length) (n : Nat) : ∀ (e : Nat) (o x : List Int), e < n → e ≤ 1000000 → Rd p b o → Rd p b x → Ev (fun k => impl_PowMod.l0 k e b o x p g t) (powm p b n e o x, true) := by
  have r := h.rng
  have hlb := pk_len hb
  induction n with
  | zero => intro e o x hn _ _ _; omega
  | succ n ih =>
    intro e o x hn he ho hx
    by_cases c : e = 0
    · subst c
      refine ⟨1, fun k hk => ?_⟩
      obtain ⟨k, rfl⟩ : ∃ m, k = m + 1 := ⟨k - 1, by omega⟩
      simp (disch := omega) only [impl_PowMod.l0, powm, w64, tmod_pos, tdiv_pos, ↓if_pos, ↓if_neg, if_pos, if_neg, if_true, if_false, Option.bind_some, Bool.false_eq_true, Bool.not_true, Bool.not_false, ↓reduceIte]
    · have hol := ho.1
      have hxl := hx.1
      have m1 := ml_len p x x
      have m2 := ml_len p o x
      obtain ⟨K1, h1⟩ := mulPoly_ok h (a := x) (b := x) (by omega) (by omega) hx.2.1 hx.2.1
      obtain ⟨K2, h2⟩ := divMod_ok h (a := ml p x x) (b := b) (by omega) (by omega) (ml_els (by omega) x x) (pk_els hb)
      have e1 : (e : Int) / 2 = ((e / 2 : Nat) : Int) := by omega
      by_cases co : e % 2 = 1
      · obtain ⟨K3, h3⟩ := mulPoly_ok h (a := o) (b := x) (by omega) (by omega) ho.2.1 hx.2.1
        obtain ⟨K4, h4⟩ := divMod_ok h (a := ml p o x) (b := b) (by omega) (by omega) (ml_els (by omega) o x) (pk_els hb)
        obtain ⟨K5, h5⟩ := ih (e / 2) (rm p (ml p o x) b) (rm p (ml p x x) b) (by omega) (by omega) (rm_ml (by omega) h0 _ _) (rm_ml (by omega) h0 _ _)
        refine ⟨K1 + K2 + K3 + K4 + K5 + 1, fun k hk => ?_⟩
        obtain ⟨k, rfl⟩ : ∃ m, k = m + 1 := ⟨k - 1, by omega⟩
        have h6 := h5 k (by omega)
        dsimp only at h6
        simp (disch := omega) only [impl_PowMod.l0, h1, h2, h3, h4, powm, e1, w64, tmod_pos, tdiv_pos, ↓if_pos, ↓if_neg, if_pos, if_neg, if_true, if_false, Option.bind_some, Bool.false_eq_true, Bool.not_true, Bool.not_false, ↓reduceIte]
        exact h6
      · obtain ⟨K5, h5⟩ := ih (e / 2) o (rm p (ml p x x) b) (by omega) (by omega) ho (rm_ml (by omega) h0 _ _)
        refine ⟨K1 + K2 + K5 + 1, fun k hk => ?_⟩
        obtain ⟨k, rfl⟩ : ∃ m, k = m + 1 := ⟨k - 1, by omega⟩
        have h6 := h5 k (by omega)
        dsimp only at h6
        simp (disch := omega) only [impl_PowMod.l0, h1, h2, powm, e1, w64, tmod_pos, tdiv_pos, ↓if_pos, ↓if_neg, if_pos, if_neg, if_true, if_false, Option.bind_some, Bool.false_eq_true, Bool.not_true, Bool.not_false, ↓reduceIte]
        exact h6
theorem iPowM_ok (h : FI f p g t) {a b : List Int} (ha : pk p a = true) (hb : pk p b = true) (e : Int) : Ev (fun k => impl_PowMod.f k f a e b) (pmo p a e b) := by
  have r := h.isF.rng
  have hla := pk_len ha
  have hlb := pk_len hb
  obtain ⟨K1, h1⟩ := polyField2 h (a := a) (b := b) (by omega) (by omega)
  rw [if_pos ⟨ha, hb⟩] at h1
  by_cases c0 : b.length = 0
  · refine ⟨K1 + 1, fun k hk => ?_⟩
    obtain ⟨k, rfl⟩ : ∃ m, k = m + 1 := ⟨k - 1, by omega⟩
    unfold impl_PowMod.f pmo
    rw [if_pos (.inl c0)]
    simp (disch := omega) only [h1, impl_PowMod.j0, w64, tmod_pos, tdiv_pos, ↓if_pos, ↓if_neg, if_pos, if_neg, if_true, if_false, Option.bind_some, Bool.false_eq_true, Bool.not_true, Bool.not_false, ↓reduceIte]
  by_cases c1 : e < 0
  · refine ⟨K1 + 1, fun k hk => ?_⟩
    obtain ⟨k, rfl⟩ : ∃ m, k = m + 1 := ⟨k - 1, by omega⟩
    unfold impl_PowMod.f pmo
    rw [if_pos (.inr (.inl c1))]
    simp (disch := omega) only [h1, impl_PowMod.j0, w64, tmod_pos, tdiv_pos, ↓if_pos, ↓if_neg, if_pos, if_neg, if_true, if_false, Option.bind_some, Bool.false_eq_true, Bool.not_true, Bool.not_false, ↓reduceIte]
  by_cases c2 : 1000000 < e
  · have hd : decide (e > 1000000) = true := decide_eq_true c2
    refine ⟨K1 + 1, fun k hk => ?_⟩
    obtain ⟨k, rfl⟩ : ∃ m, k = m + 1 := ⟨k - 1, by omega⟩
    unfold impl_PowMod.f pmo
    rw [if_pos (.inr (.inr c2))]
    simp (disch := omega) only [h1, hd, impl_PowMod.j0, w64, tmod_pos, tdiv_pos, ↓if_pos, ↓if_neg, if_pos, if_neg, if_true, if_false, Option.bind_some, Bool.false_eq_true, Bool.not_true, Bool.not_false, ↓reduceIte]
  · have hd : decide (e > 1000000) = false := decide_eq_false c2
    obtain ⟨n, rfl⟩ := Int.eq_ofNat_of_zero_le (show 0 ≤ e by omega)
    obtain ⟨K2, h2⟩ := divMod_ok h.isF (a := [1]) (b := b) (by simp) (by omega) (one_els (by omega)) (pk_els hb)
    obtain ⟨K3, h3⟩ := divMod_ok h.isF (a := a) (b := b) (by omega) (by omega) (pk_els ha) (pk_els hb)
    obtain ⟨K4, h4⟩ := iPow_l0 h.isF hb (by omega) (n + 1) n (rm p [1] b) (rm p a b) (by omega) (by omega) (rm_Rd (by omega) (by omega) (one_els (by omega)) one_top) (rm_Rd (by omega) (by omega) (pk_els ha) (pk_top' ha))
    refine ⟨K1 + K2 + K3 + K4 + 1, fun k hk => ?_⟩
    obtain ⟨k, rfl⟩ : ∃ m, k = m + 1 := ⟨k - 1, by omega⟩
    have h5 := h4 k (by omega)
    dsimp only at h5
    unfold impl_PowMod.f pmo
    rw [if_neg (show ¬ (b.length = 0 ∨ (n : Int) < 0 ∨ 1000000 < (n : Int)) by omega), Int.toNat_natCast]
    simp (disch := omega) only [h1, hd, impl_PowMod.j0, h2, h3, w64, tmod_pos, tdiv_pos, ↓if_pos, ↓if_neg, if_pos, if_neg, if_true, if_false, Option.bind_some, Bool.false_eq_true, Bool.not_true, Bool.not_false, ↓reduceIte]
    exact h5
end

end Go.Proofs.Ytmkafmgbmbgogaa.M
