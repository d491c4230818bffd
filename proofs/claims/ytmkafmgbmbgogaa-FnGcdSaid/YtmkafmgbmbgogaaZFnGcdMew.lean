import Derived.Test.YtmkafmgbmbgogaaZFnGcdG
/- The polynomial functions by their values; the remainder is one; the greatest common divisor. -/
import Derived.Test.YtmkafmgbmbgogaaZFnGcdMa
import Derived.Test.YtmkafmgbmbgogaaZFnGcdMb
import Derived.Test.YtmkafmgbmbgogaaZFnGcdMc
import Derived.Test.YtmkafmgbmbgogaaZFnGcdMd
import Derived.Test.YtmkafmgbmbgogaaZFnGcdMh
import Derived.Test.YtmkafmgbmbgogaaZFnGcdMr
import Derived.Test.YtmkafmgbmbgogaaZFnGcdMx
import Derived.Test.YtmkafmgbmbgogaaZFnGcdMy
import Derived.Test.YtmkafmgbmbgogaaZFnGcdMz
import Derived.Test.YtmkafmgbmbgogaaZFnGcdMm
import Derived.Test.YtmkafmgbmbgogaaZFnGcdMw
import Derived.Test.YtmkafmgbmbgogaaZFnGcdMwb
import Derived.Test.YtmkafmgbmbgogaaZFnGcdMev
import Derived.Test.YtmkafmgbmbgogaaZFnGcdWWords
import Derived.Test.YtmkafmgbmbgogaaZFnGcdWMore
namespace Go.Proofs.Ytmkafmgbmbgogaa.M
open Go.RowKit Go.Proofs.Ytmkafmgbmbgogaa.P Go.Proofs.YtmkafmgbmbgogaaW.PrintWords Go.Proofs.YtmkafmgbmbgogaaW.PrintLast Go.Proofs.YtmkafmgbmbgogaaW.PrintMore
set_option linter.unusedVariables false
set_option linter.unusedSimpArgs false

theorem cvn_cons (x : Int) (a b : List Int) (q n : Nat) : cvn (x :: a) b q (n + 1) = x * rd b (q : Int) + (if q = 0 then 0 else cvn a b (q - 1) n) := by
  induction n with
  | zero =>
    rw [cvn, cvn, if_pos (Nat.zero_le _), rd_cons_zero, Nat.sub_zero, cvn]
    split <;> omega
  | succ n ih =>
    rw [cvn, ih, rd_cons_succ]
    by_cases h : q = 0
    · subst h
      rw [if_pos rfl, if_pos rfl, if_neg (by omega)]; omega
    · rw [if_neg h, if_neg h, cvn]
      by_cases c : n + 1 ≤ q
      · rw [if_pos c, if_pos (by omega), show q - (n + 1) = q - 1 - n by omega]; omega
      · rw [if_neg c, if_neg (by omega)]; omega
theorem rd_mulL : ∀ (a b : List Int) (q : Nat), rd (mulL a b) (q : Int) = cvn a b q a.length
  | [], b, q => rfl
  | x :: a, b, q => by
    rw [mulL, rd_addL, rd_mapmul, List.length_cons, cvn_cons]
    cases q with
    | zero => rw [rd_cons_zero, if_pos rfl]
    | succ q => rw [rd_cons_succ, rd_mulL a b q, if_neg (by omega), Nat.add_sub_cancel]
theorem ml_pc {p : Int} (hp : 0 < p) (a b : List Int) : PC p (ev (ml p a b)) (fun X => ev a X * ev b X) := by
  have h := pc_of_rd p (ml p a b) (mulL a b) fun i => by rw [ml_rd hp, rd_mulL]; exact cs_cv p a b i a.length
  exact h.trans (PC.of_eq fun X => ev_mulL a b X)
theorem sc_pc (p : Int) (a : List Int) (x : Int) : PC p (ev (sc p a x)) (fun X => x * ev a X) := by
  have h := pc_of_rd p (sc p a x) (a.map (fun y => x * y)) fun i => by rw [sc_rd, rd_mapmul, Int.mul_comm]; exact Cg.mod p _
  exact h.trans (PC.of_eq fun X => ev_map x a X)
theorem tr_rd (p : Int) (l : List Int) (i : Nat) : rd (tr p l) (i : Int) = rd l (i : Int) % p := by
  unfold tr
  rw [cut_rd, mk_rd]
  split
  · rfl
  · rw [rd_ge (by omega)]; simp
theorem tr_pc (p : Int) (a : List Int) : PC p (ev (tr p a)) (ev a) := pc_of_rd p _ _ fun i => by rw [tr_rd]; exact Cg.mod p _
/-- Elements with congruent values are one list. -/
theorem pc_eq {p : Int} (hp : 0 < p) {a b : List Int} (ea : els p a = true) (ta : top a) (eb : els p b = true) (tb : top b) (h : PC p (ev a) (ev b)) : a = b :=
  ext_top ta tb fun i => (rd_of_pc h i).eq (els_rd' hp ea _).1 (els_rd' hp ea _).2 (els_rd' hp eb _).1 (els_rd' hp eb _).2
section
variable {f p g t : Int}
theorem dm_pc (h : IsF p g t) {a b : List Int} (hb : pk p b = true) (h0 : 1 ≤ b.length) : PC p (ev a) (fun X => ev (dm p a b).1 X * ev b X + ev (dm p a b).2 X) := by
  have r := h.rng
  have h1 := pc_of_rd p (addL (ml p (dm p a b).1 b) (dm p a b).2) a fun i => by rw [rd_addL]; exact dm_id h hb h0 i
  have h2 : PC p (ev (addL (ml p (dm p a b).1 b) (dm p a b).2)) (fun X => ev (ml p (dm p a b).1 b) X + ev (dm p a b).2 X) := PC.of_eq fun X => ev_addL _ _ X
  exact h1.symm.trans (h2.trans ((ml_pc (by omega) _ _).add (PC.refl p _)))
theorem top_ne {p : Int} {a : List Int} (ta : top a) (h : 1 ≤ a.length) : rd a ((a.length - 1 : Nat) : Int) ≠ 0 := by
  rcases ta with c | c
  · omega
  · rw [show ((a.length : Int) - 1) = ((a.length - 1 : Nat) : Int) by omega] at c; exact c
/-- The product's first coefficient is the product of the first ones. -/
theorem ml_first (h : IsF p g t) {a b : List Int} (ha : 1 ≤ a.length) (hb : 1 ≤ b.length) : rd (ml p a b) ((a.length + b.length - 2 : Nat) : Int) = rd a ((a.length - 1 : Nat) : Int) * rd b ((b.length - 1 : Nat) : Int) % p := by
  have r := h.rng
  obtain ⟨n, hn⟩ : ∃ n, a.length = n + 1 := ⟨a.length - 1, by omega⟩
  rw [ml_rd (by omega), hn, cs, if_pos (by omega), cs_before (by omega) n (fun j hj hj' => by omega), Int.zero_add, show n + 1 + b.length - 2 - n = b.length - 1 by omega, Nat.add_sub_cancel]
theorem ml_length' (h : IsF p g t) {a b : List Int} (ea : els p a = true) (ta : top a) (eb : els p b = true) (tb : top b) (ha : 1 ≤ a.length) (hb : 1 ≤ b.length) : (ml p a b).length = a.length + b.length - 1 := by
  have r := h.rng
  refine Nat.le_antisymm (ml_len p a b) (Nat.le_of_not_lt fun hlt => ?_)
  have e : rd (ml p a b) ((a.length + b.length - 2 : Nat) : Int) = 0 := rd_ge (by omega)
  rw [ml_first h ha hb] at e
  have q1 := els_rd' (p := p) (by omega) ea ((a.length - 1 : Nat) : Int)
  have q2 := els_rd' (p := p) (by omega) eb ((b.length - 1 : Nat) : Int)
  have z : Cg p (rd a ((a.length - 1 : Nat) : Int) * rd b ((b.length - 1 : Nat) : Int)) 0 := Cg.of_emod (by rw [e]; simp)
  exact top_ne (p := p) tb hb ((h.cg0 q2.1 q2.2).1 (h.integral z fun c => top_ne (p := p) ta ha ((h.cg0 q1.1 q1.2).1 c)))
/-- A multiple of b shorter than b is nothing. -/
theorem rem_zero (h : IsF p g t) {b r : List Int} (eb : els p b = true) (tb : top b) (hb : 1 ≤ b.length) (er : els p r = true) (tr' : top r) (hl : r.length < b.length) {Q : Int → Int} (hQ : Pl Q) (hpc : PC p (fun X => Q X * ev b X) (ev r)) : r = [] := by
  have rg := h.rng
  obtain ⟨q0, hq0⟩ := hQ
  have e1 : els p (tr p q0) = true := cut_els (mk_els fun i hi => emod_rng (by omega) _)
  have t1 : top (tr p q0) := cut_top _
  have h1 : PC p (ev (ml p (tr p q0) b)) (ev r) := by
    refine (ml_pc (by omega) _ _).trans (PC.trans ?_ hpc)
    exact ((tr_pc p q0).trans (PC.of_eq fun X => (hq0 X).symm)).mul (PC.refl p _) ⟨q0, hq0⟩ (Pl.ev b)
  have h2 := pc_eq (by omega) (ml_els (by omega) _ _) (ml_top _ _ _) er tr' h1
  by_cases c : (tr p q0).length = 0
  · rw [← h2]
    unfold ml
    rw [if_pos (.inl c)]
  · have := ml_length' h e1 t1 eb tb (by omega) hb
    rw [h2] at this
    omega
/-- The remainder is one. -/
theorem rem_unique (h : IsF p g t) {b r s : List Int} (eb : els p b = true) (tb : top b) (hb : 1 ≤ b.length) (er : els p r = true) (tr' : top r) (hl : r.length < b.length) (es : els p s = true) (ts : top s) (hs : s.length < b.length)
    {Q : Int → Int} (hQ : Pl Q) (hpc : PC p (ev r) (fun X => Q X * ev b X + ev s X)) : r = s := by
  have rg := h.rng
  have e1 : els p (sb p r s) = true := sb_els (by omega) _ _
  have l1 := sb_len p r s
  have hsb : PC p (ev (sb p r s)) (fun X => ev r X - ev s X) := by
    have h := pc_of_rd p (sb p r s) (addL r (s.map (fun y => (-1) * y))) fun i => by
      rw [sb_rd, rd_addL, rd_mapmul]; exact (Cg.mod p _).trans (Cg.of_eq (by omega))
    exact h.trans (PC.of_eq fun X => by rw [ev_addL, ev_map]; omega)
  have hz : sb p r s = [] := by
    refine rem_zero h eb tb hb e1 (sb_top _ _ _) (by omega) hQ ?_
    refine PC.trans ?_ hsb.symm
    have h3 := (hpc.sub (PC.refl p (ev s))).symm
    exact PC.trans (PC.of_eq fun X => by omega) h3
  refine ext_top tr' ts fun i => ?_
  have q1 := els_rd' (p := p) (by omega) er (i : Int)
  have q2 := els_rd' (p := p) (by omega) es (i : Int)
  have e : rd (sb p r s) (i : Int) = 0 := by rw [hz]; rfl
  rw [sb_rd] at e
  have c : Cg p (rd r (i : Int) - rd s (i : Int)) 0 := Cg.of_emod (by rw [e]; simp)
  have c2 := c.add (Cg.refl p (rd s (i : Int)))
  rw [show rd r (i : Int) - rd s (i : Int) + rd s (i : Int) = rd r (i : Int) by omega, Int.zero_add] at c2
  exact c2.eq q1.1 q1.2 q2.1 q2.2
end

end Go.Proofs.Ytmkafmgbmbgogaa.M
