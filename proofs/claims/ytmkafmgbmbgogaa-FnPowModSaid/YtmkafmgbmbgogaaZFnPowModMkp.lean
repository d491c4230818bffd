import Derived.Test.YtmkafmgbmbgogaaZFnPowModG
/- The drawing functions for polynomials return. -/
import Derived.Laws.BitsLemmas
import Derived.Test.YtmkafmgbmbgogaaZFnPowModMa
import Derived.Test.YtmkafmgbmbgogaaZFnPowModMb
import Derived.Test.YtmkafmgbmbgogaaZFnPowModMc
import Derived.Test.YtmkafmgbmbgogaaZFnPowModMe
import Derived.Test.YtmkafmgbmbgogaaZFnPowModMh
import Derived.Test.YtmkafmgbmbgogaaZFnPowModMk
import Derived.Test.YtmkafmgbmbgogaaZFnPowModMr
import Derived.Test.YtmkafmgbmbgogaaZFnPowModMx
import Derived.Test.YtmkafmgbmbgogaaZFnPowModMy
import Derived.Test.YtmkafmgbmbgogaaZFnPowModMm
import Derived.Test.YtmkafmgbmbgogaaZFnPowModWWords
import Derived.Test.YtmkafmgbmbgogaaZFnPowModWMore
import Derived.Test.YtmkafmgbmbgogaaZFnPowMod6
import Derived.Test.YtmkafmgbmbgogaaZFnPowMod5
import Derived.Test.YtmkafmgbmbgogaaZFnPowMod7
namespace Go.Proofs.Ytmkafmgbmbgogaa.M
open Go.RowKit Go.Proofs.Ytmkafmgbmbgogaa.P Go.Proofs.YtmkafmgbmbgogaaW.PrintWords Go.Proofs.YtmkafmgbmbgogaaW.PrintLast Go.Proofs.YtmkafmgbmbgogaaW.PrintMore
set_option linter.unusedVariables false
set_option linter.unusedSimpArgs false

theorem DrawList_l0 (f n : Int) (hn : n ≤ 1000) (d : Nat) : ∀ (i : Nat) (x s : List Int) (ci cc : Int), Cur s ci → n - i ≤ d → x.length = i → (i : Int) ≤ max n 0 → ∃ (y : List Int) (i' c' : Int), (y.length : Int) ≤ max n 0 ∧ Cur s i' ∧ ∀ k, d < k → spec_l01DrawList.l0 k f n x i s ci cc = some (y, i', c') := by
  induction d with
  | zero =>
    intro i x s ci cc hc hd hx hi
    refine ⟨x, ci, cc, by omega, hc, fun k hk => ?_⟩
    obtain ⟨k, rfl⟩ : ∃ m, k = m + 1 := ⟨k - 1, by omega⟩
    simp (disch := omega) only [spec_l01DrawList.l0, w64, tmod_pos, tdiv_pos, ↓if_pos, ↓if_neg, if_pos, if_neg, if_true, if_false, Option.bind_some, Bool.false_eq_true, Bool.not_true, Bool.not_false, ↓reduceIte]
  | succ d ih =>
    intro i x s ci cc hc hd hx hi
    by_cases h : (i : Int) < n
    · obtain ⟨v, i2, c2, e2, _, hc2⟩ := DrawElement_ok hc cc f
      obtain ⟨y, i', c', hy, hcy, hk0⟩ := ih (i + 1) (x ++ [v]) s i2 c2 hc2 (by omega) (by simp [hx]) (by omega)
      refine ⟨y, i', c', hy, hcy, fun k hk => ?_⟩
      obtain ⟨k, rfl⟩ : ∃ m, k = m + 1 := ⟨k - 1, by omega⟩
      simp (disch := omega) only [spec_l01DrawList.l0, e2, w64, tmod_pos, tdiv_pos, ↓if_pos, ↓if_neg, if_pos, if_neg, if_true, if_false, Option.bind_some, Bool.false_eq_true, Bool.not_true, Bool.not_false, ↓reduceIte]
      exact hk0 k (by omega)
    · refine ⟨x, ci, cc, by omega, hc, fun k hk => ?_⟩
      obtain ⟨k, rfl⟩ : ∃ m, k = m + 1 := ⟨k - 1, by omega⟩
      simp (disch := omega) only [spec_l01DrawList.l0, w64, tmod_pos, tdiv_pos, ↓if_pos, ↓if_neg, if_pos, if_neg, if_true, if_false, Option.bind_some, Bool.false_eq_true, Bool.not_true, Bool.not_false, ↓reduceIte]
theorem DrawList_ok {s : List Int} {ci : Int} (hc : Cur s ci) (cc f n : Int) (hn : n ≤ 1000) : ∃ (y : List Int) (i' c' : Int), (y.length : Int) ≤ max n 0 ∧ Cur s i' ∧ Ev (fun k => spec_l01DrawList.f k s ci cc f n) (y, i', c') := by
  obtain ⟨y, i', c', hy, hcy, h⟩ := DrawList_l0 f n hn 1000 0 [] s ci cc hc (by omega) rfl (by omega)
  exact ⟨y, i', c', hy, hcy, 1001, fun k hk => h k (by omega)⟩
theorem DrawPoly_j0 {s : List Int} {ci : Int} (hc : Cur s ci) (cc f : Int) (x : List Int) (hx : x.length ≤ 1000) : ∃ (y : List Int) (i' c' : Int), y.length ≤ x.length ∧ Cur s i' ∧ Ev (fun k => spec_l03DrawPoly.j0 k f x s ci cc) (y, i', c') := by
  obtain ⟨b, i1, c1, e1, hc1⟩ := Once_ok hc cc 25
  have key : ∀ v : Bool, (v = true → 0 < x.length) → ∃ (y : List Int) (i' c' : Int), y.length ≤ x.length ∧ Cur s i' ∧ ∀ k, 1 ≤ k → spec_l03DrawPoly.j1 k f x v s i1 c1 = some (y, i', c') := by
    intro v hv
    cases v with
    | false =>
      refine ⟨x, i1, c1, Nat.le_refl _, hc1, fun k hk => ?_⟩
      obtain ⟨k, rfl⟩ : ∃ m, k = m + 1 := ⟨k - 1, by omega⟩
      simp (disch := omega) only [spec_l03DrawPoly.j1, w64, tmod_pos, tdiv_pos, ↓if_pos, ↓if_neg, if_pos, if_neg, if_true, if_false, Option.bind_some, Bool.false_eq_true, Bool.not_true, Bool.not_false, ↓reduceIte]
    | true =>
      have hl := hv rfl
      obtain ⟨p, ep, _⟩ := Modulus_any f
      obtain ⟨z, i2, c2, e2, _, hc2⟩ := Pick_ok hc1 c1 (l := [0, (-1), p]) (by simp) (by simp)
      refine ⟨x.set (x.length - 1) z, i2, c2, by rw [List.length_set]; exact Nat.le_refl _, hc2, fun k hk => ?_⟩
      obtain ⟨k, rfl⟩ : ∃ m, k = m + 1 := ⟨k - 1, by omega⟩
      have e3 : ((x.length : Int) - 1).toNat = x.length - 1 := by omega
      simp (disch := omega) only [spec_l03DrawPoly.j1, ep, e2, e3, w64, tmod_pos, tdiv_pos, ↓if_pos, ↓if_neg, if_pos, if_neg, if_true, if_false, Option.bind_some, Bool.false_eq_true, Bool.not_true, Bool.not_false, ↓reduceIte]
  cases b with
  | true =>
    obtain ⟨y, i', c', hy, hcy, hk0⟩ := key (decide ((x.length : Int) > 0)) (fun h => by have := of_decide_eq_true h; omega)
    refine ⟨y, i', c', hy, hcy, 2, fun k hk => ?_⟩
    obtain ⟨k, rfl⟩ : ∃ m, k = m + 1 := ⟨k - 1, by omega⟩
    simp (disch := omega) only [spec_l03DrawPoly.j0, e1, w64, tmod_pos, tdiv_pos, ↓if_pos, ↓if_neg, if_pos, if_neg, if_true, if_false, Option.bind_some, Bool.false_eq_true, Bool.not_true, Bool.not_false, ↓reduceIte]
    exact hk0 k (by omega)
  | false =>
    obtain ⟨y, i', c', hy, hcy, hk0⟩ := key false (fun h => by cases h)
    refine ⟨y, i', c', hy, hcy, 2, fun k hk => ?_⟩
    obtain ⟨k, rfl⟩ : ∃ m, k = m + 1 := ⟨k - 1, by omega⟩
    simp (disch := omega) only [spec_l03DrawPoly.j0, e1, w64, tmod_pos, tdiv_pos, ↓if_pos, ↓if_neg, if_pos, if_neg, if_true, if_false, Option.bind_some, Bool.false_eq_true, Bool.not_true, Bool.not_false, ↓reduceIte]
    exact hk0 k (by omega)
theorem DrawPoly_ok {s : List Int} {ci : Int} (hc : Cur s ci) (cc f n : Int) (hn : n ≤ 1000) : ∃ (y : List Int) (i' c' : Int), (y.length : Int) ≤ max n 0 ∧ Cur s i' ∧ Ev (fun k => spec_l03DrawPoly.f k s ci cc f n) (y, i', c') := by
  obtain ⟨x, i1, c1, hx, hc1, K1, h1⟩ := DrawList_ok hc cc f n hn
  obtain ⟨p, ep, hp⟩ := Modulus_any f
  rcases hp with rfl | ⟨g, t, hf⟩
  · obtain ⟨y, i', c', hy, hcy, K2, h2⟩ := DrawPoly_j0 hc1 c1 f x (by omega)
    refine ⟨y, i', c', by omega, hcy, K1 + K2, fun k hk => ?_⟩
    have h3 := h2 k (by omega)
    dsimp only at h3
    unfold spec_l03DrawPoly.f
    simp (disch := omega) only [h1, ep, w64, tmod_pos, tdiv_pos, ↓if_pos, ↓if_neg, if_pos, if_neg, if_true, if_false, Option.bind_some, Bool.false_eq_true, Bool.not_true, Bool.not_false, ↓reduceIte]
    exact h3
  · have r := hf.isF.rng
    obtain ⟨K3, h3⟩ := l03Cut_ok (l := x) (by omega)
    have hl := cut_len x
    obtain ⟨y, i', c', hy, hcy, K2, h2⟩ := DrawPoly_j0 hc1 c1 f (cut x) (by omega)
    refine ⟨y, i', c', by omega, hcy, K1 + K2 + K3, fun k hk => ?_⟩
    have h4 := h2 k (by omega)
    dsimp only at h4
    unfold spec_l03DrawPoly.f
    simp (disch := omega) only [h1, ep, h3, w64, tmod_pos, tdiv_pos, ↓if_pos, ↓if_neg, if_pos, if_neg, if_true, if_false, Option.bind_some, Bool.false_eq_true, Bool.not_true, Bool.not_false, ↓reduceIte]
    exact h4
theorem PolyOk_any (f : Int) {a : List Int} (ha : a.length ≤ 1048576) : ∃ b : Bool, Ev (fun k => spec_PolyOk.f k f a) b ∧ (b = true → ∃ p g t, FI f p g t ∧ pk p a = true) := by
  rcases FI.cases f with ⟨p, g, t, h⟩ | h
  · exact ⟨_, PolyOk_ok h ha, fun e => ⟨p, g, t, h, e⟩⟩
  · exact ⟨_, PolyOk_no h a, fun e => by cases e⟩
theorem FI.p_eq {f p g t p' g' t' : Int} (h : FI f p g t) (h' : FI f p' g' t') : p = p' := by
  unfold FI at h h'
  omega
/-- A length is drawn. -/
theorem SizeBelow_ok {s : List Int} (hs : s.length ≤ 1048576) {s2 : List Int} {ci : Int} (hc : Cur s2 ci) (cc m : Int) (hm : 0 ≤ m) : ∃ z x i' c', spec_l01Size.f s m = some z ∧ spec_l01Below.f s2 ci cc z = some (x, i', c') ∧ 0 ≤ x ∧ x ≤ m ∧ Cur s2 i' := by
  obtain ⟨z, ez, hz, hz'⟩ := Size_ok hs m hm
  obtain ⟨x, i2, c2, e2, hx, hx', hx0, hc2⟩ := Below_ok hc cc z
  refine ⟨z, x, i2, c2, ez, e2, hx, ?_, hc2⟩
  by_cases hz0 : 0 < z
  · have := hx' hz0; omega
  · have := hx0 (by omega); omega

theorem DrawPowMod_ok {s : List Int} (hs : s.length ≤ 1048576) : ∃ (f : Int) (a : List Int) (e : Int) (b : List Int), a.length ≤ 30 ∧ b.length ≤ 30 ∧ Ev (fun k => spec_DrawPowMod.f k s) (f, a, e, b) := by
  obtain ⟨c, K, hK⟩ := New_ok hs
  obtain ⟨f, i1, c1, e1, _, _, hc1⟩ := DrawField_ok (Cur.start hs) c
  obtain ⟨z1, n1, i3, c3, ez1, e3, hn1, hn1', hc3⟩ := SizeBelow_ok hs hc1 c1 20 (by omega)
  obtain ⟨x, i4, c4, hx, hc4, K4, h4⟩ := DrawPoly_ok hc3 c3 f n1 (by omega)
  obtain ⟨z2, n2, i5, c5, ez2, e5, hn2, hn2', hc5⟩ := SizeBelow_ok hs hc4 c4 14 (by omega)
  obtain ⟨y, i6, c6, hy, hc6, K6, h6⟩ := DrawPoly_ok hc5 c5 f n2 (by omega)
  obtain ⟨p, ep, _⟩ := Modulus_any f
  obtain ⟨m, i7, c7, e7, hm, hm', _, hc7⟩ := Below_ok hc6 c6 1000
  obtain ⟨e, i8, c8, e8, _, hc8⟩ := Pick_ok hc7 c7 (l := [0, 1, 2, 3, Int.tmod p 1000001, 1000000, 1000001, (-1), m]) (by simp) (by simp)
  refine ⟨f, x, e, y, by omega, by omega, K + K4 + K6, fun k hk => ?_⟩
  unfold spec_DrawPowMod.f
  simp (disch := omega) only [hK, e1, ez1, e3, h4, ez2, e5, h6, ep, e7, e8, Option.bind_some]

end Go.Proofs.Ytmkafmgbmbgogaa.M
