import Derived.Test.YtmkafmgbmbgogaaZFnGcdG
/- What GcdPoly, PowMod and SquareFree come to, of the program and of the reference. -/
import Derived.Test.YtmkafmgbmbgogaaZFnGcdMa
import Derived.Test.YtmkafmgbmbgogaaZFnGcdMb
import Derived.Test.YtmkafmgbmbgogaaZFnGcdMc
import Derived.Test.YtmkafmgbmbgogaaZFnGcdMd
import Derived.Test.YtmkafmgbmbgogaaZFnGcdMh
import Derived.Test.YtmkafmgbmbgogaaZFnGcdMr
import Derived.Test.YtmkafmgbmbgogaaZFnGcdMx
import Derived.Test.YtmkafmgbmbgogaaZFnGcdMy
import Derived.Test.YtmkafmgbmbgogaaZFnGcdMm
import Derived.Test.YtmkafmgbmbgogaaZFnGcdMw
import Derived.Test.YtmkafmgbmbgogaaZFnGcdWWords
import Derived.Test.YtmkafmgbmbgogaaZFnGcdWMore
import Derived.Test.YtmkafmgbmbgogaaZFnGcd2
import Derived.Test.YtmkafmgbmbgogaaZFnGcd1
import Derived.Test.YtmkafmgbmbgogaaZFnGcd0
import Derived.Test.YtmkafmgbmbgogaaZFnGcd4
import Derived.Test.YtmkafmgbmbgogaaZFnGcd3
namespace Go.Proofs.Ytmkafmgbmbgogaa.M
open Go.RowKit Go.Proofs.Ytmkafmgbmbgogaa.P Go.Proofs.YtmkafmgbmbgogaaW.PrintWords Go.Proofs.YtmkafmgbmbgogaaW.PrintLast Go.Proofs.YtmkafmgbmbgogaaW.PrintMore
set_option linter.unusedVariables false
set_option linter.unusedSimpArgs false

def rm (p : Int) (a b : List Int) : List Int := (dm p a b).2
/-- Euclid's way. -/
def egcd (p : Int) : Nat → List Int → List Int → List Int
  | 0, a, _ => a
  | n + 1, a, b => if b.length = 0 then a else egcd p n b (rm p a b)
def mon (p : Int) (a : List Int) : List Int := if a.length = 0 then [] else sc p a (iv1 p a)
def gcd (p : Int) (a b : List Int) : List Int := mon p (egcd p (b.length + 1) a b)
theorem egcd_pk {p : Int} (hp : 0 < p) (n : Nat) : ∀ a b, pk p a = true → pk p b = true → pk p (egcd p n a b) = true := by
  induction n with
  | zero => intro a b ha hb; exact ha
  | succ n ih =>
    intro a b ha hb
    rw [egcd]
    split
    · exact ha
    · exact ih _ _ hb (dm_rem_pk hp (pk_els ha) (pk_top' ha) (by omega) (pk_len hb))
theorem mon_len (p : Int) (a : List Int) : (mon p a).length ≤ a.length := by
  unfold mon
  split
  · simp
  · exact sc_len p a _
section
variable {f p g t : Int}
theorem monic_ok (h : IsF p g t) {a : List Int} (ha : pk p a = true) : Ev (fun k => impl_field_monic.f k p g t a) (mon p a) := by
  have r := h.rng
  have hla := pk_len ha
  by_cases c : a.length = 0
  · refine ⟨0, fun k hk => ?_⟩
    unfold impl_field_monic.f mon
    simp (disch := omega) only [w64, tmod_pos, tdiv_pos, ↓if_pos, ↓if_neg, if_pos, if_neg, if_true, if_false, Option.bind_some, Bool.false_eq_true, Bool.not_true, Bool.not_false, ↓reduceIte]
  · have q1 := els_rd (pk_els ha) (i := ((a.length - 1 : Nat) : Int)) (by omega) (by omega)
    obtain ⟨K1, h1⟩ := inverse_ok h q1.1 q1.2
    have q2 := emod_rng (p := p) (by omega) (rd a ((a.length - 1 : Nat) : Int) ^ (p.toNat - 2))
    obtain ⟨K2, h2⟩ := scale_ok h (l := a) (by omega) (pk_els ha) q2.1 q2.2
    refine ⟨K1 + K2, fun k hk => ?_⟩
    have e2 : ((a.length : Int) - 1) = ((a.length - 1 : Nat) : Int) := by omega
    unfold impl_field_monic.f mon
    simp (disch := omega) only [e2, h1, h2, w64, tmod_pos, tdiv_pos, ↓if_pos, ↓if_neg, if_pos, if_neg, if_true, if_false, Option.bind_some, Bool.false_eq_true, Bool.not_true, Bool.not_false, ↓reduceIte]
    rfl
theorem gcdPoly_l0 (h : IsF p g t) (n : Nat) : ∀ a b : List Int, pk p a = true → pk p b = true → b.length < n → Ev (fun k => impl_field_gcdPoly.l0 k a b p g t) (mon p (egcd p n a b)) := by
  have r := h.rng
  induction n with
  | zero => intro a b _ _ hn; omega
  | succ n ih =>
    intro a b ha hb hn
    have hla := pk_len ha
    have hlb := pk_len hb
    by_cases c : b.length = 0
    · obtain ⟨K, hK⟩ := monic_ok h ha
      refine ⟨K + 1, fun k hk => ?_⟩
      obtain ⟨k, rfl⟩ : ∃ m, k = m + 1 := ⟨k - 1, by omega⟩
      simp (disch := omega) only [impl_field_gcdPoly.l0, hK, egcd, w64, tmod_pos, tdiv_pos, ↓if_pos, ↓if_neg, if_pos, if_neg, if_true, if_false, Option.bind_some, Bool.false_eq_true, Bool.not_true, Bool.not_false, ↓reduceIte]
    · have hr := dm_rem (p := p) (by omega) (pk_els ha) (pk_top' ha) (b := b) (by omega)
      obtain ⟨K1, h1⟩ := divMod_ok h (a := a) (b := b) (by omega) (by omega) (pk_els ha) (pk_els hb)
      obtain ⟨K2, h2⟩ := ih b (rm p a b) hb (dm_rem_pk (by omega) (pk_els ha) (pk_top' ha) (by omega) hlb) (by unfold rm; omega)
      refine ⟨K1 + K2 + 1, fun k hk => ?_⟩
      obtain ⟨k, rfl⟩ : ∃ m, k = m + 1 := ⟨k - 1, by omega⟩
      have h3 := h2 k (by omega)
      dsimp only at h3
      simp (disch := omega) only [impl_field_gcdPoly.l0, h1, egcd, w64, tmod_pos, tdiv_pos, ↓if_pos, ↓if_neg, if_pos, if_neg, if_true, if_false, Option.bind_some, Bool.false_eq_true, Bool.not_true, Bool.not_false, ↓reduceIte]
      exact h3
theorem gcdPoly_ok (h : IsF p g t) {a b : List Int} (ha : pk p a = true) (hb : pk p b = true) : Ev (fun k => impl_field_gcdPoly.f k p g t a b) (gcd p a b) :=
  gcdPoly_l0 h (b.length + 1) a b ha hb (by omega)
theorem iGcd_ok (h : FI f p g t) {a b : List Int} (ha : pk p a = true) (hb : pk p b = true) : Ev (fun k => impl_GcdPoly.f k f a b) (gcd p a b) := by
  have hla := pk_len ha
  have hlb := pk_len hb
  obtain ⟨K1, h1⟩ := polyField2 h (a := a) (b := b) (by omega) (by omega)
  obtain ⟨K2, h2⟩ := gcdPoly_ok h.isF ha hb
  rw [if_pos ⟨ha, hb⟩] at h1
  refine ⟨K1 + K2, fun k hk => ?_⟩
  unfold impl_GcdPoly.f
  simp (disch := omega) only [h1, h2, w64, tmod_pos, tdiv_pos, ↓if_pos, ↓if_neg, if_pos, if_neg, if_true, if_false, Option.bind_some, Bool.false_eq_true, Bool.not_true, Bool.not_false, ↓reduceIte]
theorem sGcd_l0 (h : FI f p g t) (n : Nat) : ∀ a b : List Int, pk p a = true → pk p b = true → b.length < n → Ev (fun k => spec_GcdPoly.l0 k f a b) (mon p (egcd p n a b)) := by
  have r := h.isF.rng
  induction n with
  | zero => intro a b _ _ hn; omega
  | succ n ih =>
    intro a b ha hb hn
    have hla := pk_len ha
    have hlb := pk_len hb
    by_cases c : b.length = 0
    · by_cases c2 : a.length = 0
      · refine ⟨1, fun k hk => ?_⟩
        obtain ⟨k, rfl⟩ : ∃ m, k = m + 1 := ⟨k - 1, by omega⟩
        simp (disch := omega) only [spec_GcdPoly.l0, egcd, mon, w64, tmod_pos, tdiv_pos, ↓if_pos, ↓if_neg, if_pos, if_neg, if_true, if_false, Option.bind_some, Bool.false_eq_true, Bool.not_true, Bool.not_false, ↓reduceIte]
      · have q1 := els_rd (pk_els ha) (i := ((a.length - 1 : Nat) : Int)) (by omega) (by omega)
        have n1 : rd a ((a.length - 1 : Nat) : Int) ≠ 0 := by
          rcases pk_top ha with c | c
          · omega
          · rw [show ((a.length : Int) - 1) = ((a.length - 1 : Nat) : Int) by omega] at c; exact c
        obtain ⟨K1, h1⟩ := Inverse_ok h (fun c => n1 ((h.isF.cg0 q1.1 q1.2).1 c))
        rw [Int.emod_eq_of_lt q1.1 q1.2] at h1
        obtain ⟨K2, h2⟩ := sScale_ok h ha (rd a ((a.length - 1 : Nat) : Int) ^ (p.toNat - 2) % p)
        refine ⟨K1 + K2 + 1, fun k hk => ?_⟩
        obtain ⟨k, rfl⟩ : ∃ m, k = m + 1 := ⟨k - 1, by omega⟩
        have e2 : ((a.length : Int) - 1) = ((a.length - 1 : Nat) : Int) := by omega
        simp (disch := omega) only [spec_GcdPoly.l0, e2, h1, h2, egcd, mon, w64, tmod_pos, tdiv_pos, ↓if_pos, ↓if_neg, if_pos, if_neg, if_true, if_false, Option.bind_some, Bool.false_eq_true, Bool.not_true, Bool.not_false, ↓reduceIte]
        rfl
    · have hr := dm_rem (p := p) (by omega) (pk_els ha) (pk_top' ha) (b := b) (by omega)
      obtain ⟨K1, h1⟩ := l03DivMod_ok h (a := a) (b := b) (by omega) (by omega) (pk_els ha) (pk_top' ha) hb
      obtain ⟨K2, h2⟩ := ih b (rm p a b) hb (dm_rem_pk (by omega) (pk_els ha) (pk_top' ha) (by omega) hlb) (by unfold rm; omega)
      refine ⟨K1 + K2 + 1, fun k hk => ?_⟩
      obtain ⟨k, rfl⟩ : ∃ m, k = m + 1 := ⟨k - 1, by omega⟩
      have h3 := h2 k (by omega)
      dsimp only at h3
      simp (disch := omega) only [spec_GcdPoly.l0, h1, egcd, w64, tmod_pos, tdiv_pos, ↓if_pos, ↓if_neg, if_pos, if_neg, if_true, if_false, Option.bind_some, Bool.false_eq_true, Bool.not_true, Bool.not_false, ↓reduceIte]
      exact h3
theorem sGcd_ok (h : FI f p g t) {a b : List Int} (ha : pk p a = true) (hb : pk p b = true) : Ev (fun k => spec_GcdPoly.f k f a b) (gcd p a b) := by
  have hla := pk_len ha
  have hlb := pk_len hb
  obtain ⟨K1, h1⟩ := PolyOk_ok h (a := a) (by omega)
  obtain ⟨K2, h2⟩ := PolyOk_ok h (a := b) (by omega)
  rw [ha] at h1
  rw [hb] at h2
  obtain ⟨K3, h3⟩ := l01Copy_ok (l := a) (by omega)
  obtain ⟨K4, h4⟩ := l01Copy_ok (l := b) (by omega)
  obtain ⟨K5, h5⟩ := sGcd_l0 h (b.length + 1) a b ha hb (by omega)
  refine ⟨K1 + K2 + K3 + K4 + K5 + 1, fun k hk => ?_⟩
  obtain ⟨k, rfl⟩ : ∃ m, k = m + 1 := ⟨k - 1, by omega⟩
  have h6 := h5 k (by omega)
  dsimp only at h6
  unfold spec_GcdPoly.f
  simp (disch := omega) only [h1, h2, spec_GcdPoly.j0, h3, h4, w64, tmod_pos, tdiv_pos, ↓if_pos, ↓if_neg, if_pos, if_neg, if_true, if_false, Option.bind_some, Bool.false_eq_true, Bool.not_true, Bool.not_false, ↓reduceIte]
  exact h6

/-! ### SquareFree -/

/-- What is kept while the power is made. -/
def Rd (p : Int) (b x : List Int) : Prop := x.length < b.length ∧ els p x = true ∧ top x
theorem rm_Rd {p : Int} (hp : 0 < p) {b : List Int} (h0 : 1 ≤ b.length) {x : List Int} (ex : els p x = true) (tx : top x) : Rd p b (rm p x b) := dm_rem hp ex tx h0
end

end Go.Proofs.Ytmkafmgbmbgogaa.M
