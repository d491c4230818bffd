import Derived.Test.YtmkafmgbmbgogaaZFnGcdG
/- The greatest common divisor divides both, is monic, and of multiples it is the multiple. -/
import Derived.Test.YtmkafmgbmbgogaaZFnGcdMa
import Derived.Test.YtmkafmgbmbgogaaZFnGcdMb
import Derived.Test.YtmkafmgbmbgogaaZFnGcdMc
import Derived.Test.YtmkafmgbmbgogaaZFnGcdMd
import Derived.Test.YtmkafmgbmbgogaaZFnGcdMh
import Derived.Test.YtmkafmgbmbgogaaZFnGcdMr
import Derived.Test.YtmkafmgbmbgogaaZFnGcdMx
import Derived.Test.YtmkafmgbmbgogaaZFnGcdMy
import Derived.Test.YtmkafmgbmbgogaaZFnGcdMz
import Derived.Test.YtmkafmgbmbgogaaZFnGcdMm
import Derived.Test.YtmkafmgbmbgogaaZFnGcdMw
import Derived.Test.YtmkafmgbmbgogaaZFnGcdMwb
import Derived.Test.YtmkafmgbmbgogaaZFnGcdMg
import Derived.Test.YtmkafmgbmbgogaaZFnGcdMev
import Derived.Test.YtmkafmgbmbgogaaZFnGcdMew
import Derived.Test.YtmkafmgbmbgogaaZFnGcdWWords
import Derived.Test.YtmkafmgbmbgogaaZFnGcdWMore
namespace Go.Proofs.Ytmkafmgbmbgogaa.M
open Go.RowKit Go.Proofs.Ytmkafmgbmbgogaa.P Go.Proofs.YtmkafmgbmbgogaaW.PrintWords Go.Proofs.YtmkafmgbmbgogaaW.PrintLast Go.Proofs.YtmkafmgbmbgogaaW.PrintMore
set_option linter.unusedVariables false
set_option linter.unusedSimpArgs false

section
variable {f p g t : Int}
/-- d divides a. -/
def PDv (p : Int) (d a : List Int) : Prop := ∃ Q, Pl Q ∧ PC p (ev a) (fun X => Q X * ev d X)
theorem PDv.refl (p : Int) (a : List Int) : PDv p a a := ⟨fun _ => 1, Pl.const 1, PC.of_eq fun X => by simp⟩
theorem egcd_dv (h : IsF p g t) (n : Nat) : ∀ a b, pk p a = true → pk p b = true → b.length < n → PDv p (egcd p n a b) a ∧ PDv p (egcd p n a b) b := by
  have r := h.rng
  induction n with
  | zero => intro a b _ _ hn; omega
  | succ n ih =>
    intro a b ha hb hn
    rw [egcd]
    by_cases c : b.length = 0
    · rw [if_pos c]
      obtain rfl : b = [] := List.eq_nil_of_length_eq_zero c
      exact ⟨PDv.refl p a, fun _ => 0, Pl.const 0, PC.of_eq fun X => by simp [ev]⟩
    · rw [if_neg c]
      have hr := dm_rem (p := p) (by omega) (pk_els ha) (pk_top' ha) (b := b) (by omega)
      obtain ⟨⟨Q1, hQ1, h1⟩, Q2, hQ2, h2⟩ := ih b (rm p a b) hb (dm_rem_pk (by omega) (pk_els ha) (pk_top' ha) (by omega) (pk_len hb)) (by unfold rm; omega)
      refine ⟨⟨fun X => ev (dm p a b).1 X * Q1 X + Q2 X, ((Pl.ev _).mul hQ1).add hQ2, ?_⟩, Q1, hQ1, h1⟩
      refine (dm_pc h hb (by omega)).trans ((((PC.refl p (ev (dm p a b).1)).mul h1 (Pl.ev _) (Pl.ev b)).add h2).trans (PC.of_eq fun X => ?_))
      grind
theorem egcd_ne {p : Int} (n : Nat) : ∀ a b : List Int, 1 ≤ a.length ∨ 1 ≤ b.length → b.length < n → (∀ x y : List Int, 1 ≤ y.length → els p x = true → top x → (rm p x y).length < y.length ∧ els p (rm p x y) = true ∧ top (rm p x y)) → els p a = true → top a → els p b = true → top b → 1 ≤ (egcd p n a b).length := by
  induction n with
  | zero => intro a b _ hn; omega
  | succ n ih =>
    intro a b hab hn hrm ea ta eb tb
    rw [egcd]
    by_cases c : b.length = 0
    · rw [if_pos c]; omega
    · rw [if_neg c]
      have hr := hrm a b (by omega) ea ta
      exact ih b (rm p a b) (.inl (by omega)) (by omega) hrm eb tb hr.2.1 hr.2.2
/-- A divisor leaves nothing. -/
theorem dv_rem (h : IsF p g t) {a d : List Int} (ha : pk p a = true) (hd : pk p d = true) (h0 : 1 ≤ d.length) (hdv : PDv p d a) : rm p a d = [] := by
  have r := h.rng
  obtain ⟨Q, hQ, hpc⟩ := hdv
  have hr := rm_Rd (p := p) (by omega) h0 (pk_els ha) (pk_top' ha)
  refine rem_zero h (pk_els hd) (pk_top' hd) h0 hr.2.1 hr.2.2 hr.1 (Q := fun X => Q X - ev (dm p a d).1 X) (hQ.sub (Pl.ev _)) ?_
  have h1 := (hpc.symm.trans (dm_pc h hd h0)).sub (PC.refl p (fun X => ev (dm p a d).1 X * ev d X))
  refine PC.trans (PC.of_eq fun X => ?_) (h1.trans (PC.of_eq fun X => ?_))
  · grind
  · show ev (dm p a d).1 X * ev d X + ev (dm p a d).2 X - ev (dm p a d).1 X * ev d X = ev (rm p a d) X
    unfold rm
    omega
theorem mon_facts (h : IsF p g t) {a : List Int} (ha : pk p a = true) (h0 : 1 ≤ a.length) : (mon p a).length = a.length ∧ rd (mon p a) ((a.length - 1 : Nat) : Int) = 1 ∧ pk p (mon p a) = true := by
  have r := h.rng
  have hl := mon_len p a
  have e : mon p a = sc p a (iv1 p a) := by unfold mon; rw [if_neg (by omega)]
  have e1 : rd (mon p a) ((a.length - 1 : Nat) : Int) = 1 := by
    rw [e, sc_rd]
    have := iv1_cg h ha h0
    rw [Int.mul_comm] at this
    exact this.emod_of (by omega) (by omega)
  have e2 : (mon p a).length = a.length := by
    refine Nat.le_antisymm hl (Nat.le_of_not_lt fun hlt => ?_)
    rw [rd_ge (by omega)] at e1
    omega
  refine ⟨e2, e1, pk_of (by have := pk_len ha; omega) ?_ ?_⟩
  · rw [e]; exact sc_els (by omega) _ _
  · rw [e]; exact sc_top _ _ _
theorem mon_dv (h : IsF p g t) {a x : List Int} (ha : pk p a = true) (h0 : 1 ≤ a.length) (hd : PDv p a x) : PDv p (mon p a) x := by
  have r := h.rng
  obtain ⟨Q, hQ, hpc⟩ := hd
  have e : mon p a = sc p a (iv1 p a) := by unfold mon; rw [if_neg (by omega)]
  refine ⟨fun X => rd a ((a.length - 1 : Nat) : Int) * Q X, hQ.smul _, hpc.trans ?_⟩
  rw [e]
  obtain ⟨c, hc⟩ := iv1_cg h ha h0
  have h1 := ((PC.refl p (fun X => rd a ((a.length - 1 : Nat) : Int) * Q X)).mul (sc_pc p a (iv1 p a)) (hQ.smul _) (Pl.ev _)).symm
  refine PC.trans ?_ h1
  refine ⟨fun X => (-c) * (Q X * ev a X), (hQ.mul (Pl.ev a)).smul _, fun X => ?_⟩
  grind
/-! ### Multiples -/
theorem ml_nil (p : Int) (d : List Int) : ml p [] d = [] := by unfold ml; rw [if_pos (.inl rfl)]
/-- The remainder of multiples is the multiple of the remainder. -/
theorem rm_mul (h : IsF p g t) {a b d : List Int} (ha : pk p a = true) (hb : pk p b = true) (hd : pk p d = true) (hb0 : 1 ≤ b.length) (hd0 : 1 ≤ d.length) (hl : (ml p b d).length ≤ 400) :
    rm p (ml p a d) (ml p b d) = ml p (rm p a b) d := by
  have r := h.rng
  have eB := ml_els (p := p) (by omega) b d
  have tB := ml_top p b d
  have lB := ml_length' h (pk_els hb) (pk_top' hb) (pk_els hd) (pk_top' hd) hb0 hd0
  have hB : pk p (ml p b d) = true := pk_of hl eB tB
  have hB0 : 1 ≤ (ml p b d).length := by omega
  have hR := rm_Rd (p := p) (by omega) hB0 (ml_els (p := p) (by omega) a d) (ml_top p a d)
  have hr := rm_Rd (p := p) (by omega) hb0 (pk_els ha) (pk_top' ha)
  have ls : (ml p (rm p a b) d).length < (ml p b d).length := by
    have h1 := ml_len p (rm p a b) d
    have h2 := hr.1
    by_cases c : (rm p a b).length = 0
    · rw [List.eq_nil_of_length_eq_zero c, ml_nil]; simp only [List.length_nil]; omega
    · omega
  refine rem_unique h eB tB hB0 hR.2.1 hR.2.2 hR.1 (ml_els (by omega) _ _) (ml_top _ _ _) ls (Q := fun X => ev (dm p a b).1 X - ev (dm p (ml p a d) (ml p b d)).1 X) ((Pl.ev _).sub (Pl.ev _)) ?_
  have h1 := dm_pc h (a := ml p a d) hB hB0
  have h2 := dm_pc h (a := a) hb hb0
  have h3 := ml_pc (p := p) (by omega) a d
  have h4 := ml_pc (p := p) (by omega) b d
  have h5 := ml_pc (p := p) (by omega) (rm p a b) d
  have h6 : PC p (ev (ml p a d)) (fun X => (ev (dm p a b).1 X * ev b X + ev (dm p a b).2 X) * ev d X) := h3.trans (h2.mul (PC.refl p (ev d)) (((Pl.ev _).mul (Pl.ev _)).add (Pl.ev _)) (Pl.ev d))
  have h7 : PC p (fun X => ev (dm p a b).1 X * ev (ml p b d) X + ev (ml p (rm p a b) d) X) (fun X => ev (dm p a b).1 X * (ev b X * ev d X) + ev (rm p a b) X * ev d X) :=
    ((PC.refl p (ev (dm p a b).1)).mul h4 (Pl.ev _) (Pl.ev _)).add h5
  have h8 : PC p (ev (ml p a d)) (fun X => ev (dm p a b).1 X * ev (ml p b d) X + ev (ml p (rm p a b) d) X) := h6.trans ((PC.of_eq fun X => by
    show _ = ev (dm p a b).1 X * (ev b X * ev d X) + ev (dm p a b).2 X * ev d X
    grind).trans h7.symm)
  have h9 := (h1.symm.trans h8).sub (PC.refl p (fun X => ev (dm p (ml p a d) (ml p b d)).1 X * ev (ml p b d) X))
  refine PC.trans (PC.of_eq fun X => ?_) (h9.trans (PC.of_eq fun X => ?_))
  · show ev (dm p (ml p a d) (ml p b d)).2 X = _
    omega
  · grind
theorem egcd_mul (h : IsF p g t) {d : List Int} (hd : pk p d = true) (hd0 : 1 ≤ d.length) (n : Nat) : ∀ a b, pk p a = true → pk p b = true → (ml p b d).length ≤ 400 → egcd p n (ml p a d) (ml p b d) = ml p (egcd p n a b) d := by
  have r := h.rng
  induction n with
  | zero => intro a b _ _ _; rfl
  | succ n ih =>
    intro a b ha hb hl
    rw [egcd, egcd]
    by_cases c : b.length = 0
    · rw [if_pos c, List.eq_nil_of_length_eq_zero c, ml_nil]; rfl
    · have lB := ml_length' h (pk_els hb) (pk_top' hb) (pk_els hd) (pk_top' hd) (by omega) hd0
      have hr := rm_Rd (p := p) (by omega) (b := b) (by omega) (pk_els ha) (pk_top' ha)
      have h1 := ml_len p (rm p a b) d
      have h2 := hr.1
      rw [if_neg c, if_neg (by omega), rm_mul h ha hb hd (by omega) hd0 hl]
      refine ih b (rm p a b) hb (dm_rem_pk (by omega) (pk_els ha) (pk_top' ha) (by omega) (pk_len hb)) ?_
      by_cases c2 : (rm p a b).length = 0
      · rw [List.eq_nil_of_length_eq_zero c2, ml_nil]; simp
      · omega
theorem mon_mul (h : IsF p g t) {a d : List Int} (ha : pk p a = true) (hd : pk p d = true) (hd0 : 1 ≤ d.length) (hm : rd d ((d.length - 1 : Nat) : Int) = 1) : mon p (ml p a d) = ml p (mon p a) d := by
  have r := h.rng
  by_cases c : a.length = 0
  · rw [List.eq_nil_of_length_eq_zero c, ml_nil]
    show [] = ml p [] d
    rw [ml_nil]
  · have l := ml_length' h (pk_els ha) (pk_top' ha) (pk_els hd) (pk_top' hd) (by omega) hd0
    have q := els_rd (pk_els ha) (i := ((a.length - 1 : Nat) : Int)) (by omega) (by omega)
    have e1 : rd (ml p a d) (((ml p a d).length - 1 : Nat) : Int) = rd a ((a.length - 1 : Nat) : Int) := by
      rw [l, show a.length + d.length - 1 - 1 = a.length + d.length - 2 by omega, ml_first h (by omega) hd0, hm, Int.mul_one, Int.emod_eq_of_lt q.1 q.2]
    have e2 : iv1 p (ml p a d) = iv1 p a := by unfold iv1; rw [e1]
    have e3 : mon p (ml p a d) = sc p (ml p a d) (iv1 p a) := by unfold mon; rw [if_neg (by omega), e2]
    have e4 : mon p a = sc p a (iv1 p a) := by unfold mon; rw [if_neg c]
    rw [e3, e4]
    refine pc_eq (by omega) (sc_els (by omega) _ _) (sc_top _ _ _) (ml_els (by omega) _ _) (ml_top _ _ _) ?_
    have h1 := sc_pc p (ml p a d) (iv1 p a)
    have h2 := (PC.refl p (fun _ => iv1 p a)).mul (ml_pc (p := p) (by omega) a d) (Pl.const _) (Pl.ev _)
    have h3 := ml_pc (p := p) (by omega) (sc p a (iv1 p a)) d
    have h4 := (sc_pc p a (iv1 p a)).mul (PC.refl p (ev d)) ((Pl.ev a).smul _) (Pl.ev d)
    refine h1.trans (h2.trans ((PC.of_eq fun X => ?_).trans (h3.trans h4).symm))
    exact (Int.mul_assoc _ _ _).symm
theorem egcd_fuel {p : Int} (hp : 0 < p) (n : Nat) : ∀ (m : Nat) (a b : List Int), els p a = true → top a → els p b = true → top b → b.length < n → b.length < m → egcd p n a b = egcd p m a b := by
  induction n with
  | zero => intro m a b _ _ _ _ hn; omega
  | succ n ih =>
    intro m a b ea ta eb tb hn hm
    obtain ⟨m, rfl⟩ : ∃ k, m = k + 1 := ⟨m - 1, by omega⟩
    rw [egcd, egcd]
    by_cases c : b.length = 0
    · rw [if_pos c, if_pos c]
    · rw [if_neg c, if_neg c]
      have hr := rm_Rd hp (b := b) (by omega) ea ta
      have := hr.1
      exact ih m b (rm p a b) eb tb hr.2.1 hr.2.2 (by omega) (by omega)
theorem egcd_len {p : Int} (hp : 0 < p) (n : Nat) : ∀ (a b : List Int), els p a = true → top a → els p b = true → top b → (egcd p n a b).length ≤ max a.length b.length := by
  induction n with
  | zero => intro a b _ _ _ _; rw [egcd]; omega
  | succ n ih =>
    intro a b ea ta eb tb
    rw [egcd]
    by_cases c : b.length = 0
    · rw [if_pos c]; omega
    · rw [if_neg c]
      have hr := rm_Rd hp (b := b) (by omega) ea ta
      have h1 := hr.1
      have := ih b (rm p a b) eb tb hr.2.1 hr.2.2
      omega
theorem gcd_mul (h : IsF p g t) {a b d : List Int} (ha : pk p a = true) (hb : pk p b = true) (hd : pk p d = true) (hd0 : 1 ≤ d.length) (hm : rd d ((d.length - 1 : Nat) : Int) = 1) (hl : (ml p b d).length ≤ 400) :
    gcd p (ml p a d) (ml p b d) = ml p (gcd p a b) d := by
  have r := h.rng
  have hB : b.length < (ml p b d).length + 1 := by
    by_cases c : b.length = 0
    · omega
    · have := ml_length' h (pk_els hb) (pk_top' hb) (pk_els hd) (pk_top' hd) (by omega) hd0
      omega
  unfold gcd
  rw [egcd_mul h hd hd0 _ a b ha hb hl, egcd_fuel (by omega) _ (b.length + 1) a b (pk_els ha) (pk_top' ha) (pk_els hb) (pk_top' hb) hB (by omega)]
  exact mon_mul h (egcd_pk (by omega) _ a b ha hb) hd hd0 hm
/-- All that the law asks of the divisor. -/
theorem gcd_facts (h : IsF p g t) {a b : List Int} (ha : pk p a = true) (hb : pk p b = true) (h0 : 1 ≤ a.length ∨ 1 ≤ b.length) :
    1 ≤ (gcd p a b).length ∧ rd (gcd p a b) (((gcd p a b).length - 1 : Nat) : Int) = 1 ∧ pk p (gcd p a b) = true ∧ rm p a (gcd p a b) = [] ∧ rm p b (gcd p a b) = [] ∧ (gcd p a b).length ≤ max a.length b.length := by
  have r := h.rng
  have hG := egcd_pk (p := p) (by omega) (b.length + 1) a b ha hb
  have hG0 := egcd_ne (p := p) (b.length + 1) a b h0 (by omega) (fun x y hy ex tx => rm_Rd (by omega) hy ex tx) (pk_els ha) (pk_top' ha) (pk_els hb) (pk_top' hb)
  have hl := egcd_len (p := p) (by omega) (b.length + 1) a b (pk_els ha) (pk_top' ha) (pk_els hb) (pk_top' hb)
  have hdv := egcd_dv h (b.length + 1) a b ha hb (by omega)
  have hm := mon_facts h hG hG0
  have e : gcd p a b = mon p (egcd p (b.length + 1) a b) := rfl
  rw [e]
  refine ⟨by omega, by rw [hm.1]; exact hm.2.1, hm.2.2, dv_rem h ha hm.2.2 (by omega) (mon_dv h hG hG0 hdv.1), dv_rem h hb hm.2.2 (by omega) (mon_dv h hG hG0 hdv.2), by omega⟩
end

end Go.Proofs.Ytmkafmgbmbgogaa.M
