import Derived.Test.YtmkafmgbmbgogaaZFnEvalProductG
/- The polynomial functions by their values; the remainder is one; the greatest common divisor. -/
import Derived.Test.YtmkafmgbmbgogaaZFnEvalProductMa
import Derived.Test.YtmkafmgbmbgogaaZFnEvalProductMb
import Derived.Test.YtmkafmgbmbgogaaZFnEvalProductMc
import Derived.Test.YtmkafmgbmbgogaaZFnEvalProductMd
import Derived.Test.YtmkafmgbmbgogaaZFnEvalProductMh
import Derived.Test.YtmkafmgbmbgogaaZFnEvalProductMr
import Derived.Test.YtmkafmgbmbgogaaZFnEvalProductMx
import Derived.Test.YtmkafmgbmbgogaaZFnEvalProductMy
import Derived.Test.YtmkafmgbmbgogaaZFnEvalProductMz
import Derived.Test.YtmkafmgbmbgogaaZFnEvalProductMm
import Derived.Test.YtmkafmgbmbgogaaZFnEvalProductMw
import Derived.Test.YtmkafmgbmbgogaaZFnEvalProductMwb
import Derived.Test.YtmkafmgbmbgogaaZFnEvalProductMev
import Derived.Test.YtmkafmgbmbgogaaZFnEvalProductWWords
import Derived.Test.YtmkafmgbmbgogaaZFnEvalProductWMore
namespace Go.Proofs.Ytmkafmgbmbgogaa.M
open Go.RowKit Go.Proofs.Ytmkafmgbmbgogaa.P Go.Proofs.YtmkafmgbmbgogaaW.PrintWords Go.Proofs.YtmkafmgbmbgogaaW.PrintLast Go.Proofs.YtmkafmgbmbgogaaW.PrintMore
set_option linter.unusedVariables false
set_option linter.unusedSimpArgs false

theorem cvn_cons (x : Int) (a b : List Int) (q n : Nat) : cvn (x :: a) b q (n + 1) = x * rd b (q : Int) + (if q = 0 then 0 else cvn a b (q - 1) n) := by
  induction n with
  | zero =>
    rw [cvn, cvn, if_pos (Nat.zero_le _), rd_cons_zero, Nat.sub_zero, cvn]
    split <;> omega
  | succ n ih =>
    rw [cvn, ih, rd_cons_succ]
    by_cases h : q = 0
    · subst h
      rw [if_pos rfl, if_pos rfl, if_neg (by omega)]; omega
    · rw [if_neg h, if_neg h, cvn]
      by_cases c : n + 1 ≤ q
      · rw [if_pos c, if_pos (by omega), show q - (n + 1) = q - 1 - n by omega]; omega
      · rw [if_neg c, if_neg (by omega)]; omega
theorem rd_mulL : ∀ (a b : List Int) (q : Nat), rd (mulL a b) (q : Int) = cvn a b q a.length
  | [], b, q => rfl
  | x :: a, b, q => by
    rw [mulL, rd_addL, rd_mapmul, List.length_cons, cvn_cons]
    cases q with
    | zero => rw [rd_cons_zero, if_pos rfl]
    | succ q => rw [rd_cons_succ, rd_mulL a b q, if_neg (by omega), Nat.add_sub_cancel]
theorem ml_pc {p : Int} (hp : 0 < p) (a b : List Int) : PC p (ev (ml p a b)) (fun X => ev a X * ev b X) := by
  have h := pc_of_rd p (ml p a b) (mulL a b) fun i => by rw [ml_rd hp, rd_mulL]; exact cs_cv p a b i a.length
  exact h.trans (PC.of_eq fun X => ev_mulL a b X)
theorem ad_pc (p : Int) (a b : List Int) : PC p (ev (ad p a b)) (fun X => ev a X + ev b X) := by
  have h := pc_of_rd p (ad p a b) (addL a b) fun i => by rw [ad_rd, rd_addL]; exact Cg.mod p _
  exact h.trans (PC.of_eq fun X => ev_addL a b X)
theorem cut_pc (p : Int) (a : List Int) : PC p (ev (cut a)) (ev a) := pc_of_rd p _ _ fun i => by rw [cut_rd]; exact Cg.refl p _
section
variable {f p g t : Int}
/-! ### Values -/
theorem ev_sm (l : List Int) (X : Int) : ∀ n, l.length ≤ n → sm l X n = ev l X := by
  induction l with
  | nil =>
    intro n _
    induction n with
    | zero => rfl
    | succ n ih => rw [sm, ih (by simp), rd_nil, Int.zero_mul, Int.add_zero]
  | cons x l ih =>
    intro n hn
    rw [List.length_cons] at hn
    obtain ⟨n, rfl⟩ : ∃ m, n = m + 1 := ⟨n - 1, by omega⟩
    rw [ev, ← ih n (by omega)]
    clear hn
    induction n with
    | zero => rw [sm, sm, sm, rd_cons_zero, Int.pow_zero]; omega
    | succ n ihn =>
      rw [sm, ihn, rd_cons_succ, sm, Int.pow_succ]
      grind
theorem vl_ev (p : Int) (l : List Int) (X : Int) : vl p l X = ev l X % p := by unfold vl; rw [ev_sm l X _ (Nat.le_refl _)]
theorem vl_cg (p : Int) (l : List Int) (X : Int) : Cg p (vl p l X) (ev l X) := by rw [vl_ev]; exact Cg.mod p _
end

end Go.Proofs.Ytmkafmgbmbgogaa.M
