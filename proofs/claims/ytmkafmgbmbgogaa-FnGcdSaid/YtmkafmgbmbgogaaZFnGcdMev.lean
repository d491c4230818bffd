import Derived.Test.YtmkafmgbmbgogaaZFnGcdG
/- Lists as polynomials with integer values: sums and products, congruence, and that a polynomial is given by its values; division's remainder is one. -/
import Derived.Test.YtmkafmgbmbgogaaZFnGcdMa
import Derived.Test.YtmkafmgbmbgogaaZFnGcdMb
import Derived.Test.YtmkafmgbmbgogaaZFnGcdMc
import Derived.Test.YtmkafmgbmbgogaaZFnGcdMd
import Derived.Test.YtmkafmgbmbgogaaZFnGcdMh
import Derived.Test.YtmkafmgbmbgogaaZFnGcdMr
import Derived.Test.YtmkafmgbmbgogaaZFnGcdMx
import Derived.Test.YtmkafmgbmbgogaaZFnGcdMy
import Derived.Test.YtmkafmgbmbgogaaZFnGcdMm
import Derived.Test.YtmkafmgbmbgogaaZFnGcdMw
import Derived.Test.YtmkafmgbmbgogaaZFnGcdMwb
import Derived.Test.YtmkafmgbmbgogaaZFnGcdWWords
import Derived.Test.YtmkafmgbmbgogaaZFnGcdWMore
namespace Go.Proofs.Ytmkafmgbmbgogaa.M
open Go.RowKit Go.Proofs.Ytmkafmgbmbgogaa.P Go.Proofs.YtmkafmgbmbgogaaW.PrintWords Go.Proofs.YtmkafmgbmbgogaaW.PrintLast Go.Proofs.YtmkafmgbmbgogaaW.PrintMore
set_option linter.unusedVariables false
set_option linter.unusedSimpArgs false

/-- The value at X. -/
def ev : List Int → Int → Int
  | [], _ => 0
  | x :: l, X => x + X * ev l X
def addL : List Int → List Int → List Int
  | [], b => b
  | a, [] => a
  | x :: a, y :: b => (x + y) :: addL a b
theorem ev_addL : ∀ (a b : List Int) (X : Int), ev (addL a b) X = ev a X + ev b X
  | [], b, X => by simp [addL, ev]
  | x :: a, [], X => by simp [addL, ev]
  | x :: a, y :: b, X => by
    have := ev_addL a b X
    simp only [addL, ev, this]
    grind
theorem ev_map (c : Int) : ∀ (a : List Int) (X : Int), ev (a.map (fun x => c * x)) X = c * ev a X
  | [], X => by simp [ev]
  | x :: a, X => by
    have := ev_map c a X
    simp only [List.map_cons, ev, this]
    grind
def mulL : List Int → List Int → List Int
  | [], _ => []
  | x :: a, b => addL (b.map (fun y => x * y)) (0 :: mulL a b)
theorem ev_mulL : ∀ (a b : List Int) (X : Int), ev (mulL a b) X = ev a X * ev b X
  | [], b, X => by simp [mulL, ev]
  | x :: a, b, X => by
    have := ev_mulL a b X
    simp only [mulL, ev_addL, ev_map, ev, this]
    grind
/-- A function that is a polynomial with integers for coefficients. -/
def Pl (F : Int → Int) : Prop := ∃ l, ∀ X, F X = ev l X
theorem Pl.ev (l : List Int) : Pl (ev l) := ⟨l, fun _ => rfl⟩
theorem Pl.add {F G : Int → Int} (h : Pl F) (h' : Pl G) : Pl fun X => F X + G X := by
  obtain ⟨a, ha⟩ := h
  obtain ⟨b, hb⟩ := h'
  exact ⟨addL a b, fun X => by rw [ev_addL, ← ha, ← hb]⟩
theorem Pl.mul {F G : Int → Int} (h : Pl F) (h' : Pl G) : Pl fun X => F X * G X := by
  obtain ⟨a, ha⟩ := h
  obtain ⟨b, hb⟩ := h'
  exact ⟨mulL a b, fun X => by rw [ev_mulL, ← ha, ← hb]⟩
theorem Pl.const (c : Int) : Pl fun _ => c := ⟨[c], fun X => by simp [M.ev]⟩
theorem Pl.smul {F : Int → Int} (c : Int) (h : Pl F) : Pl fun X => c * F X := (Pl.const c).mul h
theorem Pl.sub {F G : Int → Int} (h : Pl F) (h' : Pl G) : Pl fun X => F X - G X := by
  obtain ⟨l, hl⟩ := h.add (h'.smul (-1))
  exact ⟨l, fun X => by rw [← hl]; dsimp only; omega⟩
theorem Pl.id : Pl fun X => X := ⟨[0, 1], fun X => by simp [M.ev]⟩
theorem Pl.congr {F G : Int → Int} (h : Pl F) (e : ∀ X, G X = F X) : Pl G := by
  obtain ⟨l, hl⟩ := h
  exact ⟨l, fun X => by rw [e, hl]⟩
theorem Pl.pow {F : Int → Int} (h : Pl F) (n : Nat) : Pl fun X => F X ^ n := by
  induction n with
  | zero => exact (Pl.const 1).congr fun X => by rw [Int.pow_zero]
  | succ n ih => exact (ih.mul h).congr fun X => by rw [Int.pow_succ]
/-- Congruent polynomials. -/
def PC (p : Int) (F G : Int → Int) : Prop := ∃ H, Pl H ∧ ∀ X, F X = G X + p * H X
theorem PC.refl (p : Int) (F : Int → Int) : PC p F F := ⟨fun _ => 0, Pl.const 0, fun X => by simp⟩
theorem PC.of_eq {p : Int} {F G : Int → Int} (h : ∀ X, F X = G X) : PC p F G := ⟨fun _ => 0, Pl.const 0, fun X => by simp [h]⟩
theorem PC.symm {p : Int} {F G : Int → Int} (h : PC p F G) : PC p G F := by
  obtain ⟨H, hH, e⟩ := h
  exact ⟨fun X => (-1) * H X, hH.smul (-1), fun X => by have := e X; grind⟩
theorem PC.trans {p : Int} {F G K : Int → Int} (h : PC p F G) (h' : PC p G K) : PC p F K := by
  obtain ⟨H, hH, e⟩ := h
  obtain ⟨H', hH', e'⟩ := h'
  exact ⟨fun X => H X + H' X, hH.add hH', fun X => by have := e X; have := e' X; grind⟩
theorem PC.add {p : Int} {F G F' G' : Int → Int} (h : PC p F G) (h' : PC p F' G') : PC p (fun X => F X + F' X) (fun X => G X + G' X) := by
  obtain ⟨H, hH, e⟩ := h
  obtain ⟨H', hH', e'⟩ := h'
  exact ⟨fun X => H X + H' X, hH.add hH', fun X => by have := e X; have := e' X; grind⟩
theorem PC.sub {p : Int} {F G F' G' : Int → Int} (h : PC p F G) (h' : PC p F' G') : PC p (fun X => F X - F' X) (fun X => G X - G' X) := by
  obtain ⟨H, hH, e⟩ := h
  obtain ⟨H', hH', e'⟩ := h'
  exact ⟨fun X => H X - H' X, hH.sub hH', fun X => by have := e X; have := e' X; grind⟩
theorem PC.mul {p : Int} {F G F' G' : Int → Int} (h : PC p F G) (h' : PC p F' G') (pg : Pl G) (pf : Pl F') : PC p (fun X => F X * F' X) (fun X => G X * G' X) := by
  obtain ⟨H, hH, e⟩ := h
  obtain ⟨H', hH', e'⟩ := h'
  exact ⟨fun X => H X * F' X + G X * H' X, (hH.mul pf).add (pg.mul hH'), fun X => by have := e X; have := e' X; grind⟩
theorem PC.at {p : Int} {F G : Int → Int} (h : PC p F G) (X : Int) : Cg p (F X) (G X) := by
  obtain ⟨H, hH, e⟩ := h
  exact ⟨H X, e X⟩

/-! ### Coefficients and values -/
theorem rd_cons_zero (x : Int) (l : List Int) : rd (x :: l) ((0 : Nat) : Int) = x := rfl
theorem rd_cons_succ (x : Int) (l : List Int) (i : Nat) : rd (x :: l) ((i + 1 : Nat) : Int) = rd l (i : Int) := by
  rw [rd_nat, rd_nat]; rfl
/-- What is 0 at every number from 1 on has no coefficient. -/
theorem ev_zero : ∀ (l : List Int), (∀ X : Int, 1 ≤ X → ev l X = 0) → ∀ i : Nat, rd l (i : Int) = 0
  | [], _, i => rfl
  | x :: l, h, i => by
    have hx : x = 0 := by
      have h1 := h (x.natAbs + 1) (by omega)
      simp only [ev] at h1
      by_cases hx : x = 0
      · exact hx
      · have d : ((x.natAbs : Int) + 1) ∣ x := ⟨-(ev l ((x.natAbs : Int) + 1)), by rw [Int.mul_neg]; omega⟩
        have := Int.le_of_dvd (a := (x.natAbs : Int) + 1) (b := (x.natAbs : Int)) (by omega) (Int.dvd_natAbs.2 d)
        omega
    have hl : ∀ X : Int, 1 ≤ X → ev l X = 0 := by
      intro X hX
      have h1 := h X hX
      simp only [ev, hx, Int.zero_add] at h1
      rcases Int.mul_eq_zero.1 h1 with c | c
      · omega
      · exact c
    cases i with
    | zero => rw [rd_cons_zero]; exact hx
    | succ i => rw [rd_cons_succ]; exact ev_zero l hl i
theorem rd_addL : ∀ (a b : List Int) (i : Nat), rd (addL a b) (i : Int) = rd a (i : Int) + rd b (i : Int)
  | [], b, i => by rw [addL, rd_nil, Int.zero_add]
  | x :: a, [], i => by rw [addL, rd_nil, Int.add_zero]; intro h; cases h
  | x :: a, y :: b, 0 => by rw [addL, rd_cons_zero, rd_cons_zero, rd_cons_zero]
  | x :: a, y :: b, i + 1 => by rw [addL, rd_cons_succ, rd_cons_succ, rd_cons_succ, rd_addL a b i]
theorem rd_mapmul (c : Int) (a : List Int) (i : Nat) : rd (a.map (fun x => c * x)) (i : Int) = c * rd a (i : Int) := rd_map a _ (Int.mul_zero c) i
/-- Congruent values everywhere: congruent coefficients. -/
theorem rd_of_pc {p : Int} {a b : List Int} (h : PC p (ev a) (ev b)) (i : Nat) : Cg p (rd a (i : Int)) (rd b (i : Int)) := by
  obtain ⟨H, ⟨c, hc⟩, e⟩ := h
  have z := ev_zero (addL a (addL (b.map (fun x => (-1) * x)) (c.map (fun x => (-p) * x)))) (fun X _ => by
    rw [ev_addL, ev_addL, ev_map, ev_map, e X, hc X]; grind) i
  rw [rd_addL, rd_addL, rd_mapmul, rd_mapmul] at z
  exact ⟨rd c (i : Int), by have e1 : -p * rd c (i : Int) = -(p * rd c (i : Int)) := Int.neg_mul _ _; omega⟩
theorem ev_all_zero (p : Int) : ∀ b : List Int, (∀ i : Nat, Cg p 0 (rd b (i : Int))) → PC p (fun _ => 0) (ev b)
  | [], _ => PC.refl p _
  | y :: b, h => by
    have h1 := h 0
    rw [rd_cons_zero] at h1
    obtain ⟨c, hc⟩ := h1
    obtain ⟨H, hH, e⟩ := ev_all_zero p b fun i => by have := h (i + 1); rwa [rd_cons_succ] at this
    refine ⟨fun X => c + X * H X, (Pl.const c).add (Pl.id.mul hH), fun X => ?_⟩
    have := e X
    simp only [ev]
    grind
/-- .. and back. -/
theorem pc_of_rd (p : Int) : ∀ a b : List Int, (∀ i : Nat, Cg p (rd a (i : Int)) (rd b (i : Int))) → PC p (ev a) (ev b)
  | [], b, h => (ev_all_zero p b h).trans (PC.refl p _)
  | x :: a, [], h => (ev_all_zero p (x :: a) fun i => (h i).symm).symm
  | x :: a, y :: b, h => by
    have h1 := h 0
    rw [rd_cons_zero, rd_cons_zero] at h1
    obtain ⟨c, hc⟩ := h1
    obtain ⟨H, hH, e⟩ := pc_of_rd p a b fun i => by have := h (i + 1); rwa [rd_cons_succ, rd_cons_succ] at this
    refine ⟨fun X => c + X * H X, (Pl.const c).add (Pl.id.mul hH), fun X => ?_⟩
    have := e X
    simp only [ev]
    grind

end Go.Proofs.Ytmkafmgbmbgogaa.M
