import Derived.Test.YtjfmclpfdijkiaaG0
/- Lists of elements and polynomials: what the program's and the reference's checks answer. -/
import Derived.Test.YtjfmclpfdijkiaaZFnExactTrimMa
import Derived.Test.YtjfmclpfdijkiaaZFnExactTrimMb
import Derived.Test.YtjfmclpfdijkiaaZFnExactTrimMc
import Derived.Test.YtjfmclpfdijkiaaZFnExactTrimMd
import Derived.Test.YtjfmclpfdijkiaaZFnExactTrimMh
import Derived.Test.YtjfmclpfdijkiaaWWords
import Derived.Test.YtjfmclpfdijkiaaWMore
namespace Go.Proofs.Ytjfmclpfdijkiaa.M
open Go.RowKit Go.Proofs.Ytjfmclpfdijkiaa.P Go.Proofs.YtjfmclpfdijkiaaW.PrintWords Go.Proofs.YtjfmclpfdijkiaaW.PrintLast Go.Proofs.YtjfmclpfdijkiaaW.PrintMore
set_option linter.unusedVariables false
set_option linter.unusedSimpArgs false

/-- All of the list lie from 0 to p - 1. -/
def els (p : Int) (l : List Int) : Bool := l.all fun x => decide (0 ≤ x) && decide (x < p)
theorem els_iff {p : Int} {l : List Int} : els p l = true ↔ ∀ x ∈ l, 0 ≤ x ∧ x < p := by simp [els]
theorem els_rd {p : Int} {l : List Int} (h : els p l = true) {i : Int} (h0 : 0 ≤ i) (h1 : i < (l.length : Int)) : 0 ≤ rd l i ∧ rd l i < p :=
  els_iff.1 h _ (rd_mem h0 h1)
theorem els_rd' {p : Int} (hp : 0 < p) {l : List Int} (h : els p l = true) (i : Int) : 0 ≤ rd l i ∧ rd l i < p := by
  unfold rd
  rw [List.getD_eq_getElem?_getD]
  cases e : l[i.toNat]? with
  | none => exact ⟨Int.le_refl _, hp⟩
  | some x => exact els_iff.1 h x (List.mem_of_getElem? e)
theorem els_drop {p : Int} {l : List Int} {i : Nat} (h : i < l.length) : els p (l.drop i) = (decide (0 ≤ rd l (i : Int)) && decide (rd l (i : Int) < p) && els p (l.drop (i + 1))) := by
  rw [List.drop_eq_getElem_cons h, rd_at h]
  rfl
theorem els_nil (p : Int) : els p [] = true := rfl
theorem els_append {p : Int} {a b : List Int} : els p (a ++ b) = (els p a && els p b) := by simp [els]
section
variable {f p g t : Int}

/-! ### Polynomials -/
/-- At most 400 elements, and the last of them is not 0. -/
def pk (p : Int) (l : List Int) : Bool := decide (l.length ≤ 400) && els p l && (decide (l.length = 0) || decide (rd l ((l.length : Int) - 1) ≠ 0))
theorem pk_len {p : Int} {l : List Int} (h : pk p l = true) : l.length ≤ 400 := by simp [pk] at h; exact h.1.1
theorem pk_els {p : Int} {l : List Int} (h : pk p l = true) : els p l = true := by simp [pk] at h; exact h.1.2
theorem pk_top {p : Int} {l : List Int} (h : pk p l = true) : l.length = 0 ∨ rd l ((l.length : Int) - 1) ≠ 0 := by simp [pk] at h; exact h.2.imp (by intro h; rw [h]; rfl) id

end

end Go.Proofs.Ytjfmclpfdijkiaa.M
