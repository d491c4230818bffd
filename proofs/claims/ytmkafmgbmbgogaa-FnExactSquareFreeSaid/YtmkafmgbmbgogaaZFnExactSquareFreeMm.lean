import Derived.Test.YtmkafmgbmbgogaaG0
/- What MulPoly and Compose come to, of the program and of the reference. -/
import Derived.Test.YtmkafmgbmbgogaaZFnExactSquareFreeMa
import Derived.Test.YtmkafmgbmbgogaaZFnExactSquareFreeMb
import Derived.Test.YtmkafmgbmbgogaaZFnExactSquareFreeMc
import Derived.Test.YtmkafmgbmbgogaaZFnExactSquareFreeMd
import Derived.Test.YtmkafmgbmbgogaaZFnExactSquareFreeMh
import Derived.Test.YtmkafmgbmbgogaaZFnExactSquareFreeMr
import Derived.Test.YtmkafmgbmbgogaaZFnExactSquareFreeMx
import Derived.Test.YtmkafmgbmbgogaaZFnExactSquareFreeMy
import Derived.Test.YtmkafmgbmbgogaaWWords
import Derived.Test.YtmkafmgbmbgogaaWMore
namespace Go.Proofs.Ytmkafmgbmbgogaa.M
open Go.RowKit Go.Proofs.Ytmkafmgbmbgogaa.P Go.Proofs.YtmkafmgbmbgogaaW.PrintWords Go.Proofs.YtmkafmgbmbgogaaW.PrintLast Go.Proofs.YtmkafmgbmbgogaaW.PrintMore
set_option linter.unusedVariables false
set_option linter.unusedSimpArgs false

/-- The first i terms of the product's coefficient q. -/
def cs (p : Int) (a b : List Int) (q : Nat) : Nat → Int
  | 0 => 0
  | i + 1 => if i ≤ q then (cs p a b q i + rd a (i : Int) * rd b ((q - i : Nat) : Int)) % p else cs p a b q i
theorem cs_rng {p : Int} (hp : 0 < p) (a b : List Int) (q i : Nat) : 0 ≤ cs p a b q i ∧ cs p a b q i < p := by
  induction i with
  | zero => exact ⟨Int.le_refl _, hp⟩
  | succ n ih => unfold cs; split; exact emod_rng hp _; exact ih
/-- A term with nothing of b in it adds nothing. -/
theorem cs_skip {p : Int} (hp : 0 < p) {a b : List Int} {q i : Nat} (h : q < i ∨ b.length ≤ q - i) : cs p a b q (i + 1) = cs p a b q i := by
  have r := cs_rng hp a b q i
  rw [cs]
  split
  · rw [rd_ge (l := b) (by omega), Int.mul_zero, Int.add_zero, Int.emod_eq_of_lt r.1 r.2]
  · rfl
theorem cs_stop {p : Int} (hp : 0 < p) {a b : List Int} {q i : Nat} (d : Nat) (h : q < i) : cs p a b q (i + d) = cs p a b q i := by
  induction d with
  | zero => rfl
  | succ d ih => rw [show i + (d + 1) = (i + d) + 1 by omega, cs_skip hp (.inl (by omega)), ih]
/-- The product. -/
def ml (p : Int) (a b : List Int) : List Int := if a.length = 0 ∨ b.length = 0 then [] else cut (mk (a.length + b.length - 1) fun q => cs p a b q a.length)
theorem ml_els {p : Int} (hp : 0 < p) (a b : List Int) : els p (ml p a b) = true := by
  unfold ml; split
  · rfl
  · exact cut_els (mk_els fun i hi => cs_rng hp _ _ _ _)
theorem ml_top (p : Int) (a b : List Int) : top (ml p a b) := by
  unfold ml; split
  · exact .inl rfl
  · exact cut_top _
theorem ml_len (p : Int) (a b : List Int) : (ml p a b).length ≤ a.length + b.length - 1 := by
  unfold ml; split
  · simp
  · have := cut_len (mk (a.length + b.length - 1) fun q => cs p a b q a.length)
    rw [mk_length] at this; exact this
theorem cs_end {p : Int} (hp : 0 < p) {a b : List Int} {q : Nat} (h : a.length = 0 ∨ b.length = 0 ∨ a.length + b.length - 1 ≤ q) (i : Nat) : i ≤ a.length → cs p a b q i = 0 := by
  induction i with
  | zero => intro _; rfl
  | succ i ih =>
    intro hi
    rw [cs_skip hp (by omega), ih (by omega)]
theorem ml_rd {p : Int} (hp : 0 < p) (a b : List Int) (q : Nat) : rd (ml p a b) (q : Int) = cs p a b q a.length := by
  unfold ml
  split
  · rw [rd_nil, cs_end hp (by omega) _ (Nat.le_refl _)]
  · rw [cut_rd, mk_rd]
    split
    · rfl
    · rw [cs_end hp (by omega) _ (Nat.le_refl _)]
section
variable {f p g t : Int}
/-- What the list holds at row i, column j. -/
def mlI (p : Int) (a b x : List Int) (i j : Nat) : Prop := x.length = a.length + b.length - 1 ∧ ∀ q : Nat, q < a.length + b.length - 1 → rd x (q : Int) = if i ≤ q ∧ q - i < j then cs p a b q (i + 1) else cs p a b q i
/-- What MulPoly answers for two polynomials. -/
def mp (p : Int) (a b : List Int) : List Int × Bool := if 400 < (ml p a b).length then ([], false) else (ml p a b, true)
theorem mp_len (p : Int) (a b : List Int) : (mp p a b).1.length ≤ 1048576 := by
  unfold mp; split
  · simp
  · show (ml p a b).length ≤ _; omega
/-- The first coefficient of the top: nothing else comes to it. -/
theorem cs_before {p : Int} (hp : 0 < p) {a b : List Int} {q : Nat} (i : Nat) (h : ∀ j, j < i → j ≤ q → b.length ≤ q - j) : cs p a b q i = 0 := by
  induction i with
  | zero => rfl
  | succ i ih =>
    rw [cs_skip hp (by by_cases c : i ≤ q; exact .inr (h i (by omega) c); exact .inl (by omega)), ih fun j hj => h j (by omega)]
theorem ml_length (h : IsF p g t) {a b : List Int} (ha : pk p a = true) (hb : pk p b = true) (h0 : ¬ (a.length = 0 ∨ b.length = 0)) : (ml p a b).length = a.length + b.length - 1 := by
  have r := h.rng
  have hta := pk_top ha
  have htb := pk_top hb
  refine Nat.le_antisymm (ml_len p a b) (Nat.le_of_not_lt fun hlt => ?_)
  have e : rd (ml p a b) ((a.length + b.length - 2 : Nat) : Int) = 0 := rd_ge (by omega)
  obtain ⟨n, hn⟩ : ∃ n, a.length = n + 1 := ⟨a.length - 1, by omega⟩
  have q1 := els_rd (pk_els ha) (i := (n : Int)) (by omega) (by omega)
  have q2 := els_rd (pk_els hb) (i := ((b.length - 1 : Nat) : Int)) (by omega) (by omega)
  rw [ml_rd (by omega), hn, cs, if_pos (by omega), cs_before (by omega) n (fun j hj hj' => by omega), Int.zero_add, show n + 1 + b.length - 2 - n = b.length - 1 by omega] at e
  have n1 : rd a (n : Int) ≠ 0 := by rcases hta with c | c; omega; rw [hn] at c; rw [show (((n + 1 : Nat) : Int) - 1) = (n : Int) by omega] at c; exact c
  have n2 : rd b ((b.length - 1 : Nat) : Int) ≠ 0 := by rcases htb with c | c; omega; rw [show ((b.length : Int) - 1) = ((b.length - 1 : Nat) : Int) by omega] at c; exact c
  have z : Cg p (rd a (n : Int) * rd b ((b.length - 1 : Nat) : Int)) 0 := Cg.of_emod (by rw [e]; simp)
  exact n2 ((h.cg0 q2.1 q2.2).1 (h.integral z fun c => n1 ((h.cg0 q1.1 q1.2).1 c)))
theorem mp_eq (h : IsF p g t) {a b : List Int} (ha : pk p a = true) (hb : pk p b = true) : mp p a b = if ¬ (a.length = 0 ∨ b.length = 0) ∧ 400 < a.length + b.length - 1 then ([], false) else (ml p a b, true) := by
  unfold mp
  by_cases h0 : a.length = 0 ∨ b.length = 0
  · have : (ml p a b).length = 0 := by unfold ml; rw [if_pos h0]; rfl
    rw [if_neg (by omega), if_neg (by omega)]
  · rw [ml_length h ha hb h0]
    by_cases c : 400 < a.length + b.length - 1
    · rw [if_pos c, if_pos ⟨h0, c⟩]
    · rw [if_neg c, if_neg (by omega)]
end

end Go.Proofs.Ytmkafmgbmbgogaa.M
