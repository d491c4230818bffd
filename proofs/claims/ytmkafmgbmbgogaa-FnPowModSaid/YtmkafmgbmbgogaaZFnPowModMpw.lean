import Derived.Test.YtmkafmgbmbgogaaZFnPowModG
/- Congruence modulo a polynomial; what PowMod's way comes to. -/
import Derived.Test.YtmkafmgbmbgogaaZFnPowModMa
import Derived.Test.YtmkafmgbmbgogaaZFnPowModMb
import Derived.Test.YtmkafmgbmbgogaaZFnPowModMc
import Derived.Test.YtmkafmgbmbgogaaZFnPowModMd
import Derived.Test.YtmkafmgbmbgogaaZFnPowModMh
import Derived.Test.YtmkafmgbmbgogaaZFnPowModMr
import Derived.Test.YtmkafmgbmbgogaaZFnPowModMx
import Derived.Test.YtmkafmgbmbgogaaZFnPowModMy
import Derived.Test.YtmkafmgbmbgogaaZFnPowModMz
import Derived.Test.YtmkafmgbmbgogaaZFnPowModMm
import Derived.Test.YtmkafmgbmbgogaaZFnPowModMw
import Derived.Test.YtmkafmgbmbgogaaZFnPowModMwb
import Derived.Test.YtmkafmgbmbgogaaZFnPowModMg
import Derived.Test.YtmkafmgbmbgogaaZFnPowModMev
import Derived.Test.YtmkafmgbmbgogaaZFnPowModMew
import Derived.Test.YtmkafmgbmbgogaaZFnPowModWWords
import Derived.Test.YtmkafmgbmbgogaaZFnPowModWMore
namespace Go.Proofs.Ytmkafmgbmbgogaa.M
open Go.RowKit Go.Proofs.Ytmkafmgbmbgogaa.P Go.Proofs.YtmkafmgbmbgogaaW.PrintWords Go.Proofs.YtmkafmgbmbgogaaW.PrintLast Go.Proofs.YtmkafmgbmbgogaaW.PrintMore
set_option linter.unusedVariables false
set_option linter.unusedSimpArgs false

/-- Congruent modulo p and the polynomial b. -/
def MC (p : Int) (b : List Int) (F G : Int → Int) : Prop := ∃ Q, Pl Q ∧ PC p F (fun X => Q X * ev b X + G X)
section
variable {p : Int} {b : List Int} {F G H F' G' : Int → Int}
theorem MC.of_pc (h : PC p F G) : MC p b F G := ⟨fun _ => 0, Pl.const 0, h.trans (PC.of_eq fun X => by simp)⟩
theorem MC.refl (p : Int) (b : List Int) (F : Int → Int) : MC p b F F := MC.of_pc (PC.refl p F)
theorem MC.of_eq (h : ∀ X, F X = G X) : MC p b F G := MC.of_pc (PC.of_eq h)
theorem MC.symm (h : MC p b F G) : MC p b G F := by
  obtain ⟨Q, hQ, h⟩ := h
  refine ⟨fun X => (-1) * Q X, hQ.smul (-1), ?_⟩
  have h2 := ((PC.refl p (fun X => (-1) * Q X * ev b X)).add h).symm
  refine PC.trans (PC.of_eq fun X => ?_) h2
  grind
theorem MC.trans (h : MC p b F G) (h' : MC p b G H) : MC p b F H := by
  obtain ⟨Q, hQ, h⟩ := h
  obtain ⟨Q', hQ', h'⟩ := h'
  refine ⟨fun X => Q X + Q' X, hQ.add hQ', ?_⟩
  refine h.trans (((PC.refl p (fun X => Q X * ev b X)).add h').trans (PC.of_eq fun X => ?_))
  grind
theorem MC.mul (h : MC p b F G) (h' : MC p b F' G') (pg : Pl G) (pf : Pl F') : MC p b (fun X => F X * F' X) (fun X => G X * G' X) := by
  obtain ⟨Q, hQ, h⟩ := h
  obtain ⟨Q', hQ', h'⟩ := h'
  refine ⟨fun X => Q X * F' X + G X * Q' X, (hQ.mul pf).add (pg.mul hQ'), ?_⟩
  have h1 := h.mul (PC.refl p F') ((hQ.mul (Pl.ev b)).add pg) pf
  have h2 := (PC.refl p G).mul h' pg pf
  refine h1.trans (PC.trans (PC.of_eq fun X => ?_) (((PC.refl p (fun X => Q X * F' X * ev b X)).add h2).trans (PC.of_eq fun X => ?_)))
  · show (Q X * ev b X + G X) * F' X = Q X * F' X * ev b X + G X * F' X
    grind
  · grind
theorem MC.pow (h : MC p b F G) (pf : Pl F) (pg : Pl G) (n : Nat) : MC p b (fun X => F X ^ n) (fun X => G X ^ n) := by
  induction n with
  | zero => exact MC.of_eq fun X => by rw [Int.pow_zero, Int.pow_zero]
  | succ n ih =>
    refine (MC.of_eq fun X => Int.pow_succ _ _).trans ((ih.mul h (pg.pow n) pf).trans (MC.of_eq fun X => (Int.pow_succ _ _).symm))
end
section
variable {f p g t : Int}
theorem rm_mc (h : IsF p g t) (a : List Int) {b : List Int} (hb : pk p b = true) (h0 : 1 ≤ b.length) : MC p b (ev (rm p a b)) (ev a) :=
  MC.symm ⟨ev (dm p a b).1, Pl.ev _, dm_pc h hb h0⟩
theorem rm_ml_mc (h : IsF p g t) (x y : List Int) {b : List Int} (hb : pk p b = true) (h0 : 1 ≤ b.length) : MC p b (ev (rm p (ml p x y) b)) (fun X => ev x X * ev y X) :=
  (rm_mc h _ hb h0).trans (MC.of_pc (ml_pc (by have := h.rng; omega) x y))
theorem powm_mc (h : IsF p g t) {b : List Int} (hb : pk p b = true) (h0 : 1 ≤ b.length) (n : Nat) : ∀ (e : Nat) (o x : List Int), e < n → MC p b (ev (powm p b n e o x)) (fun X => ev o X * ev x X ^ e) := by
  induction n with
  | zero => intro e o x hn; omega
  | succ n ih =>
    intro e o x hn
    rw [powm]
    by_cases c : e = 0
    · rw [if_pos c, c]
      exact MC.of_eq fun X => by rw [Int.pow_zero, Int.mul_one]
    · rw [if_neg c]
      have hx := (rm_ml_mc h x x hb h0).pow (Pl.ev _) ((Pl.ev x).mul (Pl.ev x)) (e / 2)
      have hp2 : ∀ X, (ev x X * ev x X) ^ (e / 2) * (if e % 2 = 1 then ev x X else 1) = ev x X ^ e := fun X => (pow_half (ev x X) e).symm
      by_cases co : e % 2 = 1
      · rw [if_pos co]
        refine (ih (e / 2) _ _ (by omega)).trans (((rm_ml_mc h o x hb h0).mul hx ((Pl.ev o).mul (Pl.ev x)) ((Pl.ev _).pow _)).trans (MC.of_eq fun X => ?_))
        have := hp2 X
        rw [if_pos co] at this
        rw [← this]
        generalize (ev x X * ev x X) ^ (e / 2) = w
        grind
      · rw [if_neg co]
        refine (ih (e / 2) _ _ (by omega)).trans (((MC.refl p b (ev o)).mul hx (Pl.ev o) ((Pl.ev _).pow _)).trans (MC.of_eq fun X => ?_))
        have := hp2 X
        rw [if_neg co, Int.mul_one] at this
        rw [← this]
/-- One step more is one factor more. -/
theorem powm_next (h : IsF p g t) {a b : List Int} (ha : pk p a = true) (hb : pk p b = true) (h0 : 1 ≤ b.length) (e : Nat) :
    rm p (ml p (powm p b (e + 1) e (rm p [1] b) (rm p a b)) a) b = powm p b (e + 1 + 1) (e + 1) (rm p [1] b) (rm p a b) := by
  have r := h.rng
  have R1 := rm_Rd (p := p) (by omega) h0 (one_els (by omega)) one_top
  have h1 := rm_ml (p := p) (by omega) h0 (powm p b (e + 1) e (rm p [1] b) (rm p a b)) a
  have h2 := powm_Rd (p := p) (by omega) h0 (e + 1 + 1) (e + 1) (rm p [1] b) (rm p a b) R1
  have m1 := powm_mc h hb h0 (e + 1) e (rm p [1] b) (rm p a b) (by omega)
  have m2 := powm_mc h hb h0 (e + 1 + 1) (e + 1) (rm p [1] b) (rm p a b) (by omega)
  have m3 : MC p b (ev (rm p (ml p (powm p b (e + 1) e (rm p [1] b) (rm p a b)) a) b)) (ev (powm p b (e + 1 + 1) (e + 1) (rm p [1] b) (rm p a b))) := by
    refine (rm_ml_mc h _ a hb h0).trans (((m1.mul (rm_mc h a hb h0).symm ((Pl.ev _).mul ((Pl.ev _).pow _)) (Pl.ev a)).trans (MC.of_eq fun X => ?_)).trans m2.symm)
    rw [Int.pow_succ, Int.mul_assoc]
  obtain ⟨Q, hQ, hpc⟩ := m3
  exact rem_unique h (pk_els hb) (pk_top' hb) h0 h1.2.1 h1.2.2 h1.1 h2.2.1 h2.2.2 h2.1 hQ hpc
end

end Go.Proofs.Ytmkafmgbmbgogaa.M
