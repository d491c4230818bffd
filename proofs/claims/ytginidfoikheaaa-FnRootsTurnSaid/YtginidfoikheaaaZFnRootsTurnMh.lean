import Derived.Test.YtginidfoikheaaaG0
/- What the laws' own helpers compute on lists: copies, comparisons, marks. -/
import Derived.Test.YtginidfoikheaaaZFnRootsTurnMa
import Derived.Test.YtginidfoikheaaaZFnRootsTurnMb
import Derived.Test.YtginidfoikheaaaWWords
import Derived.Test.YtginidfoikheaaaWMore
namespace Go.Proofs.Ytginidfoikheaaa.M
open Go.RowKit Go.Proofs.Ytginidfoikheaaa.P Go.Proofs.YtginidfoikheaaaW.PrintWords Go.Proofs.YtginidfoikheaaaW.PrintLast Go.Proofs.YtginidfoikheaaaW.PrintMore
set_option linter.unusedVariables false
set_option linter.unusedSimpArgs false

/-- A call whose answer is known, ahead of what follows. -/
theorem bnd {α β : Type} {x : Option α} {r : α} (h : x = some r) (F : α → Option β) : x.bind F = F r := by rw [h]; rfl
theorem bnd1 {γ α β : Type} {g : γ → Option α} {r : γ → α} (h : ∀ x, g x = some (r x)) (x : γ) (F : α → Option β) : (g x).bind F = F (r x) := by rw [h]; rfl
theorem bnd2 {γ δ α β : Type} {g : γ → δ → Option α} {r : γ → δ → α} (h : ∀ x y, g x y = some (r x y)) (x : γ) (y : δ) (F : α → Option β) : (g x y).bind F = F (r x y) := by rw [h]; rfl
theorem rd_nat (l : List Int) (i : Nat) : rd l (i : Int) = l.getD i 0 := by unfold rd; rw [Int.toNat_natCast]
theorem rd_at {l : List Int} {i : Nat} (h : i < l.length) : rd l (i : Int) = l[i] := by
  rw [rd_nat, List.getD_eq_getElem?_getD, List.getElem?_eq_getElem h]
  rfl
theorem rd_mem {l : List Int} {i : Int} (h0 : 0 ≤ i) (h : i < (l.length : Int)) : rd l i ∈ l := by
  obtain ⟨n, rfl⟩ := Int.eq_ofNat_of_zero_le h0
  rw [rd_at (by omega)]
  exact List.getElem_mem _
theorem take_rd {l : List Int} {i : Nat} (h : i < l.length) : l.take (i + 1) = l.take i ++ [rd l (i : Int)] := by
  rw [rd_at h, List.take_succ_eq_append_getElem h]
theorem w64_succ {i : Nat} (h : i < 9223372036854775807) : wrap64 ((i : Int) + 1) = ((i + 1 : Nat) : Int) := by
  rw [w64 (by omega) (by omega)]; rfl
/-- The numbers from c on, n of them. -/
def marks (c : Int) (n : Nat) : List Int := (List.range n).map fun j : Nat => c + (j : Int)
theorem marks_length (c : Int) (n : Nat) : (marks c n).length = n := by simp [marks]
theorem marks_rd {c : Int} {n i : Nat} (h : i < n) : rd (marks c n) (i : Int) = c + i := by
  rw [rd_at (by rw [marks_length]; exact h)]
  simp [marks]

end Go.Proofs.Ytginidfoikheaaa.M
