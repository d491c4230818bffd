import Derived.Test.YtigfpkbdkdihbaaZFnDivBackG
/- The drawing functions for polynomials return. -/
import Derived.Laws.BitsLemmas
import Derived.Test.YtigfpkbdkdihbaaZFnDivBackMa
import Derived.Test.YtigfpkbdkdihbaaZFnDivBackMb
import Derived.Test.YtigfpkbdkdihbaaZFnDivBackMc
import Derived.Test.YtigfpkbdkdihbaaZFnDivBackMe
import Derived.Test.YtigfpkbdkdihbaaZFnDivBackMh
import Derived.Test.YtigfpkbdkdihbaaZFnDivBackMk
import Derived.Test.YtigfpkbdkdihbaaZFnDivBackMr
import Derived.Test.YtigfpkbdkdihbaaZFnDivBackMx
import Derived.Test.YtigfpkbdkdihbaaZFnDivBackMy
import Derived.Test.YtigfpkbdkdihbaaZFnDivBackMm
import Derived.Test.YtigfpkbdkdihbaaZFnDivBackWWords
import Derived.Test.YtigfpkbdkdihbaaZFnDivBackWMore
import Derived.Test.YtigfpkbdkdihbaaZFnDivBack4
import Derived.Test.YtigfpkbdkdihbaaZFnDivBack5
import Derived.Test.YtigfpkbdkdihbaaZFnDivBack6
namespace Go.Proofs.Ytigfpkbdkdihbaa.M
open Go.RowKit Go.Proofs.Ytigfpkbdkdihbaa.P Go.Proofs.YtigfpkbdkdihbaaW.PrintWords Go.Proofs.YtigfpkbdkdihbaaW.PrintLast Go.Proofs.YtigfpkbdkdihbaaW.PrintMore
set_option linter.unusedVariables false
set_option linter.unusedSimpArgs false

theorem DrawList_l0 (f n : Int) (hn : n ≤ 1000) (d : Nat) : ∀ (i : Nat) (x s : List Int) (ci cc : Int), Cur s ci → n - i ≤ d → x.length = i → (i : Int) ≤ max n 0 → ∃ (y : List Int) (i' c' : Int), (y.length : Int) ≤ max n 0 ∧ Cur s i' ∧ ∀ k, d < k → spec_l01DrawList.l0 k f n x i s ci cc = some (y, i', c') := by
  induction d with
  | zero =>
    intro i x s ci cc hc hd hx hi
    refine ⟨x, ci, cc, by omega, hc, fun k hk => ?_⟩
    obtain ⟨k, rfl⟩ : ∃ m, k = m + 1 := ⟨k - 1, by omega⟩
    simp (disch := omega) only [spec_l01DrawList.l0, w64, tmod_pos, tdiv_pos, ↓if_pos, ↓if_neg, if_pos, if_neg, if_true, if_false, Option.bind_some, Bool.false_eq_true, Bool.not_true, Bool.not_false, ↓reduceIte]
  | succ d ih =>
    intro i x s ci cc hc hd hx hi
    by_cases h : (i : Int) < n
    · obtain ⟨v, i2, c2, e2, _, hc2⟩ := DrawElement_ok hc cc f
      obtain ⟨y, i', c', hy, hcy, hk0⟩ := ih (i + 1) (x ++ [v]) s i2 c2 hc2 (by omega) (by simp [hx]) (by omega)
      refine ⟨y, i', c', hy, hcy, fun k hk => ?_⟩
      obtain ⟨k, rfl⟩ : ∃ m, k = m + 1 := ⟨k - 1, by omega⟩
      simp (disch := omega) only [spec_l01DrawList.l0, e2, w64, tmod_pos, tdiv_pos, ↓if_pos, ↓if_neg, if_pos, if_neg, if_true, if_false, Option.bind_some, Bool.false_eq_true, Bool.not_true, Bool.not_false, ↓reduceIte]
      exact hk0 k (by omega)
    · refine ⟨x, ci, cc, by omega, hc, fun k hk => ?_⟩
      obtain ⟨k, rfl⟩ : ∃ m, k = m + 1 := ⟨k - 1, by omega⟩
      simp (disch := omega) only [spec_l01DrawList.l0, w64, tmod_pos, tdiv_pos, ↓if_pos, ↓if_neg, if_pos, if_neg, if_true, if_false, Option.bind_some, Bool.false_eq_true, Bool.not_true, Bool.not_false, ↓reduceIte]
theorem DrawList_ok {s : List Int} {ci : Int} (hc : Cur s ci) (cc f n : Int) (hn : n ≤ 1000) : ∃ (y : List Int) (i' c' : Int), (y.length : Int) ≤ max n 0 ∧ Cur s i' ∧ Ev (fun k => spec_l01DrawList.f k s ci cc f n) (y, i', c') := by
  obtain ⟨y, i', c', hy, hcy, h⟩ := DrawList_l0 f n hn 1000 0 [] s ci cc hc (by omega) rfl (by omega)
  exact ⟨y, i', c', hy, hcy, 1001, fun k hk => h k (by omega)⟩
theorem DrawPoly_j0 {s : List Int} {ci : Int} (hc : Cur s ci) (cc f : Int) (x : List Int) (hx : x.length ≤ 1000) : ∃ (y : List Int) (i' c' : Int), y.length ≤ x.length ∧ Cur s i' ∧ Ev (fun k => spec_l03DrawPoly.j0 k f x s ci cc) (y, i', c') := by
  obtain ⟨b, i1, c1, e1, hc1⟩ := Once_ok hc cc 25
  have key : ∀ v : Bool, (v = true → 0 < x.length) → ∃ (y : List Int) (i' c' : Int), y.length ≤ x.length ∧ Cur s i' ∧ ∀ k, 1 ≤ k → spec_l03DrawPoly.j1 k f x v s i1 c1 = some (y, i', c') := by
    intro v hv
    cases v with
    | false =>
      refine ⟨x, i1, c1, Nat.le_refl _, hc1, fun k hk => ?_⟩
      obtain ⟨k, rfl⟩ : ∃ m, k = m + 1 := ⟨k - 1, by omega⟩
      simp (disch := omega) only [spec_l03DrawPoly.j1, w64, tmod_pos, tdiv_pos, ↓if_pos, ↓if_neg, if_pos, if_neg, if_true, if_false, Option.bind_some, Bool.false_eq_true, Bool.not_true, Bool.not_false, ↓reduceIte]
    | true =>
      have hl := hv rfl
      obtain ⟨p, ep, _⟩ := Modulus_any f
      obtain ⟨z, i2, c2, e2, _, hc2⟩ := Pick_ok hc1 c1 (l := [0, (-1), p]) (by simp) (by simp)
      refine ⟨x.set (x.length - 1) z, i2, c2, by rw [List.length_set]; exact Nat.le_refl _, hc2, fun k hk => ?_⟩
      obtain ⟨k, rfl⟩ : ∃ m, k = m + 1 := ⟨k - 1, by omega⟩
      have e3 : ((x.length : Int) - 1).toNat = x.length - 1 := by omega
      simp (disch := omega) only [spec_l03DrawPoly.j1, ep, e2, e3, w64, tmod_pos, tdiv_pos, ↓if_pos, ↓if_neg, if_pos, if_neg, if_true, if_false, Option.bind_some, Bool.false_eq_true, Bool.not_true, Bool.not_false, ↓reduceIte]
  cases b with
  | true =>
    obtain ⟨y, i', c', hy, hcy, hk0⟩ := key (decide ((x.length : Int) > 0)) (fun h => by have := of_decide_eq_true h; omega)
    refine ⟨y, i', c', hy, hcy, 2, fun k hk => ?_⟩
    obtain ⟨k, rfl⟩ : ∃ m, k = m + 1 := ⟨k - 1, by omega⟩
    simp (disch := omega) only [spec_l03DrawPoly.j0, e1, w64, tmod_pos, tdiv_pos, ↓if_pos, ↓if_neg, if_pos, if_neg, if_true, if_false, Option.bind_some, Bool.false_eq_true, Bool.not_true, Bool.not_false, ↓reduceIte]
    exact hk0 k (by omega)
  | false =>
    obtain ⟨y, i', c', hy, hcy, hk0⟩ := key false (fun h => by cases h)
    refine ⟨y, i', c', hy, hcy, 2, fun k hk => ?_⟩
    obtain ⟨k, rfl⟩ : ∃ m, k = m + 1 := ⟨k - 1, by omega⟩
    simp (disch := omega) only [spec_l03DrawPoly.j0, e1, w64, tmod_pos, tdiv_pos, ↓if_pos, ↓if_neg, if_pos, if_neg, if_true, if_false, Option.bind_some, Bool.false_eq_true, Bool.not_true, Bool.not_false, ↓reduceIte]
    exact hk0 k (by omega)
theorem DrawPoly_ok {s : List Int} {ci : Int} (hc : Cur s ci) (cc f n : Int) (hn : n ≤ 1000) : ∃ (y : List Int) (i' c' : Int), (y.length : Int) ≤ max n 0 ∧ Cur s i' ∧ Ev (fun k => spec_l03DrawPoly.f k s ci cc f n) (y, i', c') := by
  obtain ⟨x, i1, c1, hx, hc1, K1, h1⟩ := DrawList_ok hc cc f n hn
  obtain ⟨p, ep, hp⟩ := Modulus_any f
  rcases hp with rfl | ⟨g, t, hf⟩
  · obtain ⟨y, i', c', hy, hcy, K2, h2⟩ := DrawPoly_j0 hc1 c1 f x (by omega)
    refine ⟨y, i', c', by omega, hcy, K1 + K2, fun k hk => ?_⟩
    have h3 := h2 k (by omega)
    dsimp only at h3
    unfold spec_l03DrawPoly.f
    simp (disch := omega) only [h1, ep, w64, tmod_pos, tdiv_pos, ↓if_pos, ↓if_neg, if_pos, if_neg, if_true, if_false, Option.bind_some, Bool.false_eq_true, Bool.not_true, Bool.not_false, ↓reduceIte]
    exact h3
  · have r := hf.isF.rng
    obtain ⟨K3, h3⟩ := l03Cut_ok (l := x) (by omega)
    have hl := cut_len x
    obtain ⟨y, i', c', hy, hcy, K2, h2⟩ := DrawPoly_j0 hc1 c1 f (cut x) (by omega)
    refine ⟨y, i', c', by omega, hcy, K1 + K2 + K3, fun k hk => ?_⟩
    have h4 := h2 k (by omega)
    dsimp only at h4
    unfold spec_l03DrawPoly.f
    simp (disch := omega) only [h1, ep, h3, w64, tmod_pos, tdiv_pos, ↓if_pos, ↓if_neg, if_pos, if_neg, if_true, if_false, Option.bind_some, Bool.false_eq_true, Bool.not_true, Bool.not_false, ↓reduceIte]
    exact h4
theorem PolyOk_any (f : Int) {a : List Int} (ha : a.length ≤ 1048576) : ∃ b : Bool, Ev (fun k => spec_PolyOk.f k f a) b ∧ (b = true → ∃ p g t, FI f p g t ∧ pk p a = true) := by
  rcases FI.cases f with ⟨p, g, t, h⟩ | h
  · exact ⟨_, PolyOk_ok h ha, fun e => ⟨p, g, t, h, e⟩⟩
  · exact ⟨_, PolyOk_no h a, fun e => by cases e⟩
theorem FI.p_eq {f p g t p' g' t' : Int} (h : FI f p g t) (h' : FI f p' g' t') : p = p' := by
  unfold FI at h h'
  omega
/-- A length is drawn. -/
theorem SizeBelow_ok {s : List Int} (hs : s.length ≤ 1048576) {s2 : List Int} {ci : Int} (hc : Cur s2 ci) (cc m : Int) (hm : 0 ≤ m) : ∃ z x i' c', spec_l01Size.f s m = some z ∧ spec_l01Below.f s2 ci cc z = some (x, i', c') ∧ 0 ≤ x ∧ x ≤ m ∧ Cur s2 i' := by
  obtain ⟨z, ez, hz, hz'⟩ := Size_ok hs m hm
  obtain ⟨x, i2, c2, e2, hx, hx', hx0, hc2⟩ := Below_ok hc cc z
  refine ⟨z, x, i2, c2, ez, e2, hx, ?_, hc2⟩
  by_cases hz0 : 0 < z
  · have := hx' hz0; omega
  · have := hx0 (by omega); omega
theorem DrawTwo_j0 (f : Int) {s : List Int} {ci : Int} (hc : Cur s ci) (cc : Int) (x y : List Int) (v : Bool) (hx : x.length ≤ 1000) (hy : y.length ≤ 1000) (hv : v = true → ∃ p g t, FI f p g t ∧ pk p x = true ∧ pk p y = true) :
    ∃ a b : List Int, a.length ≤ 4096 ∧ b.length ≤ 4096 ∧ Ev (fun k => spec_l03DrawTwo.j0 k f x y v s ci cc) (f, a, b) := by
  cases v with
  | false =>
    refine ⟨x, y, by omega, by omega, 1, fun k hk => ?_⟩
    obtain ⟨k, rfl⟩ : ∃ m, k = m + 1 := ⟨k - 1, by omega⟩
    simp (disch := omega) only [spec_l03DrawTwo.j0, w64, tmod_pos, tdiv_pos, ↓if_pos, ↓if_neg, if_pos, if_neg, if_true, if_false, Option.bind_some, Bool.false_eq_true, Bool.not_true, Bool.not_false, ↓reduceIte]
  | true =>
    obtain ⟨p, g, t, h, hpx, hpy⟩ := hv rfl
    obtain ⟨n, i1, c1, e1, hn, hn', _, hc1⟩ := Below_ok hc cc 8
    have := hn' (by omega)
    obtain ⟨z, i2, c2, hz, hc2, K2, h2⟩ := DrawPoly_ok hc1 c1 f n (by omega)
    obtain ⟨b, ⟨K3, h3⟩, hb⟩ := PolyOk_any f (a := z) (by omega)
    cases b with
    | false =>
      refine ⟨x, y, by omega, by omega, K2 + K3 + 1, fun k hk => ?_⟩
      obtain ⟨k, rfl⟩ : ∃ m, k = m + 1 := ⟨k - 1, by omega⟩
      simp (disch := omega) only [spec_l03DrawTwo.j0, e1, h2, h3, w64, tmod_pos, tdiv_pos, ↓if_pos, ↓if_neg, if_pos, if_neg, if_true, if_false, Option.bind_some, Bool.false_eq_true, Bool.not_true, Bool.not_false, ↓reduceIte]
    | true =>
      obtain ⟨p', g', t', h', hpz⟩ := hb rfl
      rw [← h.p_eq h'] at hpz
      obtain ⟨K4, h4⟩ := l03Mul_ok h (a := x) (b := z) (by omega) (by omega) (pk_els hpx) (pk_els hpz)
      obtain ⟨K5, h5⟩ := l03Mul_ok h (a := y) (b := z) (by omega) (by omega) (pk_els hpy) (pk_els hpz)
      have m1 := ml_len p x z
      have m2 := ml_len p y z
      refine ⟨ml p x z, ml p y z, by omega, by omega, K2 + K3 + K4 + K5 + 1, fun k hk => ?_⟩
      obtain ⟨k, rfl⟩ : ∃ m, k = m + 1 := ⟨k - 1, by omega⟩
      simp (disch := omega) only [spec_l03DrawTwo.j0, e1, h2, h3, h4, h5, w64, tmod_pos, tdiv_pos, ↓if_pos, ↓if_neg, if_pos, if_neg, if_true, if_false, Option.bind_some, Bool.false_eq_true, Bool.not_true, Bool.not_false, ↓reduceIte]
theorem DrawTwo_ok {s : List Int} (hs : s.length ≤ 1048576) {m : Int} (hm : 0 ≤ m) (hm' : m ≤ 1000) : ∃ (f : Int) (a b : List Int), a.length ≤ 4096 ∧ b.length ≤ 4096 ∧ Ev (fun k => spec_l03DrawTwo.f k s m) (f, a, b) := by
  obtain ⟨c, K, hK⟩ := New_ok hs
  obtain ⟨f, i1, c1, e1, _, _, hc1⟩ := DrawField_ok (Cur.start hs) c
  obtain ⟨z1, n1, i2, c2, ez1, e2, hn1, hn1', hc2⟩ := SizeBelow_ok hs hc1 c1 m hm
  obtain ⟨x, i3, c3, hx, hc3, K3, h3⟩ := DrawPoly_ok hc2 c2 f n1 (by omega)
  obtain ⟨z2, n2, i4, c4, ez2, e4, hn2, hn2', hc4⟩ := SizeBelow_ok hs hc3 c3 m hm
  rw [ez1] at ez2
  obtain rfl := Option.some.inj ez2
  obtain ⟨y, i5, c5, hy, hc5, K5, h5⟩ := DrawPoly_ok hc4 c4 f n2 (by omega)
  obtain ⟨b, i6, c6, e6, hc6⟩ := Once_ok hc5 c5 4
  obtain ⟨bx, ⟨K7, h7⟩, hbx⟩ := PolyOk_any f (a := x) (by omega)
  obtain ⟨bY, ⟨K8, h8⟩, hby⟩ := PolyOk_any f (a := y) (by omega)
  have go : ∀ v : Bool, (v = true → ∃ p g t, FI f p g t ∧ pk p x = true ∧ pk p y = true) → ∃ a b : List Int, a.length ≤ 4096 ∧ b.length ≤ 4096 ∧ Ev (fun k => spec_l03DrawTwo.j0 k f x y v s i6 c6) (f, a, b) :=
    fun v hv => DrawTwo_j0 f hc6 c6 x y v (by omega) (by omega) hv
  cases b with
  | false =>
    obtain ⟨a, b, ha, hb, K9, h9⟩ := go false (fun h => by cases h)
    refine ⟨f, a, b, ha, hb, K + K3 + K5 + K7 + K8 + K9, fun k hk => ?_⟩
    have h10 := h9 k (by omega)
    dsimp only at h10
    unfold spec_l03DrawTwo.f
    simp (disch := omega) only [hK, e1, ez1, e2, h3, e4, h5, e6, w64, tmod_pos, tdiv_pos, ↓if_pos, ↓if_neg, if_pos, if_neg, if_true, if_false, Option.bind_some, Bool.false_eq_true, Bool.not_true, Bool.not_false, ↓reduceIte]
    exact h10
  | true =>
    cases bx with
    | false =>
      obtain ⟨a, b, ha, hb, K9, h9⟩ := go false (fun h => by cases h)
      refine ⟨f, a, b, ha, hb, K + K3 + K5 + K7 + K8 + K9, fun k hk => ?_⟩
      have h10 := h9 k (by omega)
      dsimp only at h10
      unfold spec_l03DrawTwo.f
      simp (disch := omega) only [hK, e1, ez1, e2, h3, e4, h5, e6, h7, w64, tmod_pos, tdiv_pos, ↓if_pos, ↓if_neg, if_pos, if_neg, if_true, if_false, Option.bind_some, Bool.false_eq_true, Bool.not_true, Bool.not_false, ↓reduceIte]
      exact h10
    | true =>
      obtain ⟨a, b, ha, hb, K9, h9⟩ := go bY (fun h => by
        obtain ⟨p, g, t, hf, hx⟩ := hbx rfl
        obtain ⟨p', g', t', hf', hy⟩ := hby h
        rw [← hf.p_eq hf'] at hy
        exact ⟨p, g, t, hf, hx, hy⟩)
      refine ⟨f, a, b, ha, hb, K + K3 + K5 + K7 + K8 + K9, fun k hk => ?_⟩
      have h10 := h9 k (by omega)
      dsimp only at h10
      unfold spec_l03DrawTwo.f
      simp (disch := omega) only [hK, e1, ez1, e2, h3, e4, h5, e6, h7, h8, w64, tmod_pos, tdiv_pos, ↓if_pos, ↓if_neg, if_pos, if_neg, if_true, if_false, Option.bind_some, Bool.false_eq_true, Bool.not_true, Bool.not_false, ↓reduceIte]
      exact h10
theorem DrawDivMod_ok {s : List Int} (hs : s.length ≤ 1048576) : ∃ (f : Int) (a b : List Int), a.length ≤ 4096 ∧ b.length ≤ 4096 ∧ Ev (fun k => spec_DrawDivMod.f k s) (f, a, b) := by
  obtain ⟨f, a, b, ha, hb, K, hK⟩ := DrawTwo_ok hs (m := 60) (by omega) (by omega)
  by_cases c1 : (b.length : Int) > (a.length : Int)
  · by_cases c2 : (s.length : Int) % 3 > 0
    · refine ⟨f, b, a, hb, ha, K, fun k hk => ?_⟩
      unfold spec_DrawDivMod.f
      simp (disch := omega) only [hK, w64, tmod_pos, tdiv_pos, ↓if_pos, ↓if_neg, if_pos, if_neg, if_true, if_false, Option.bind_some, Bool.false_eq_true, Bool.not_true, Bool.not_false, ↓reduceIte]
    · refine ⟨f, a, b, ha, hb, K, fun k hk => ?_⟩
      unfold spec_DrawDivMod.f
      simp (disch := omega) only [hK, w64, tmod_pos, tdiv_pos, ↓if_pos, ↓if_neg, if_pos, if_neg, if_true, if_false, Option.bind_some, Bool.false_eq_true, Bool.not_true, Bool.not_false, ↓reduceIte]
  · refine ⟨f, a, b, ha, hb, K, fun k hk => ?_⟩
    unfold spec_DrawDivMod.f
    simp (disch := omega) only [hK, w64, tmod_pos, tdiv_pos, ↓if_pos, ↓if_neg, if_pos, if_neg, if_true, if_false, Option.bind_some, Bool.false_eq_true, Bool.not_true, Bool.not_false, ↓reduceIte]


end Go.Proofs.Ytigfpkbdkdihbaa.M
