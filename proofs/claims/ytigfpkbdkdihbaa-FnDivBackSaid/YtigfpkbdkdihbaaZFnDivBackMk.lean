import Derived.Test.YtigfpkbdkdihbaaZFnDivBackG
/- The drawing functions of the reference return, and what is known of what they return. -/
import Derived.Laws.BitsLemmas
import Derived.Test.YtigfpkbdkdihbaaZFnDivBackMa
import Derived.Test.YtigfpkbdkdihbaaZFnDivBackMb
import Derived.Test.YtigfpkbdkdihbaaZFnDivBackMc
import Derived.Test.YtigfpkbdkdihbaaZFnDivBackMe
import Derived.Test.YtigfpkbdkdihbaaZFnDivBackMh
import Derived.Test.YtigfpkbdkdihbaaZFnDivBackWWords
import Derived.Test.YtigfpkbdkdihbaaZFnDivBackWMore
import Derived.Test.YtigfpkbdkdihbaaZFnDivBack4
import Derived.Test.YtigfpkbdkdihbaaZFnDivBack6
import Derived.Test.YtigfpkbdkdihbaaZFnDivBack5
namespace Go.Proofs.Ytigfpkbdkdihbaa.M
open Go.RowKit Go.Proofs.Ytigfpkbdkdihbaa.P Go.Proofs.YtigfpkbdkdihbaaW.PrintWords Go.Proofs.YtigfpkbdkdihbaaW.PrintLast Go.Proofs.YtigfpkbdkdihbaaW.PrintMore
set_option linter.unusedVariables false
set_option linter.unusedSimpArgs false

/-- A number of 64 bits. -/
def R64 (x : Int) : Prop := -9223372036854775808 ≤ x ∧ x ≤ 9223372036854775807
theorem R64.wrap (x : Int) : R64 (wrap64 x) := by unfold R64 wrap64; omega
theorem R64.of {x : Int} (h : -9223372036854775808 ≤ x) (h' : x ≤ 9223372036854775807) : R64 x := ⟨h, h'⟩
theorem and_byte (x : Int) : 0 ≤ Go.bits .and .i64 x 255 ∧ Go.bits .and .i64 x 255 ≤ 255 := by
  have h1 : (BitVec.ofInt 64 x).toNat &&& (BitVec.ofInt 64 255).toNat ≤ (BitVec.ofInt 64 255).toNat := Nat.and_le_right
  have h2 : (BitVec.ofInt 64 255).toNat = 255 := by decide
  rw [h2] at h1
  have e : Go.bits .and .i64 x 255 = IntKind.i64.wrap (((BitVec.ofInt 64 x).toNat &&& 255 : Nat) : Int) := by
    rw [← h2, ← BitVec.toNat_and]
    rfl
  rw [e, wrap_i64_id (by omega) (by omega)]
  omega
/-- The cursor lies in the bytes. -/
def Cur (s : List Int) (i : Int) : Prop := s.length ≤ 1073741824 ∧ 0 ≤ i ∧ i ≤ s.length
theorem Byte_ok {s : List Int} {i : Int} (h : Cur s i) (c : Int) : ∃ x i' c', spec_l01Byte.f s i c = some (x, i', c') ∧ 0 ≤ x ∧ x ≤ 255 ∧ Cur s i' := by
  obtain ⟨hs, h0, h1⟩ := h
  unfold spec_l01Byte.f
  by_cases hi : i < (s.length : Int)
  · rw [if_pos hi, if_pos h0]
    refine ⟨_, _, _, rfl, (and_byte _).1, (and_byte _).2, hs, ?_, ?_⟩
    · rw [w64 (by omega) (by omega)]; omega
    · rw [w64 (by omega) (by omega)]; omega
  · rw [if_neg hi]
    exact ⟨_, _, _, rfl, (and_byte _).1, (and_byte _).2, hs, h0, h1⟩
theorem Below_ok {s : List Int} {i : Int} (h : Cur s i) (c : Int) (n : Int) : ∃ x i' c', spec_l01Below.f s i c n = some (x, i', c') ∧ 0 ≤ x ∧ (0 < n → x < n) ∧ (n ≤ 0 → x = 0) ∧ Cur s i' := by
  unfold spec_l01Below.f
  by_cases hn : n ≤ 0
  · rw [if_pos hn]
    exact ⟨_, _, _, rfl, by omega, by omega, by omega, h⟩
  rw [if_neg hn]
  by_cases hm : n ≤ 256
  · rw [if_pos hm]
    obtain ⟨x, i', c', e, hx, hx', hc⟩ := Byte_ok h c
    rw [e]
    simp only [Option.bind_some]
    rw [if_neg (by omega), tmod_pos hx]
    have q := emod_rng (p := n) (by omega) x
    exact ⟨_, _, _, rfl, q.1, fun _ => q.2, by omega, hc⟩
  · rw [if_neg hm]
    obtain ⟨x, i', c', e, hx, hx', hc⟩ := Byte_ok h c
    obtain ⟨y, i2, c2, e2, hy, hy', hc2⟩ := Byte_ok hc c'
    obtain ⟨z, i3, c3, e3, hz, hz', hc3⟩ := Byte_ok hc2 c2
    simp (disch := omega) only [e, e2, e3, w64, tmod_pos, tdiv_pos, ↓if_pos, ↓if_neg, if_pos, if_neg, if_true, if_false, Option.bind_some, Bool.false_eq_true, Bool.not_true, Bool.not_false, ↓reduceIte]
    have q := emod_rng (p := n) (by omega) (x * 65536 + y * 256 + z)
    exact ⟨_, _, _, rfl, q.1, fun _ => q.2, by omega, hc3⟩
theorem Once_ok {s : List Int} {i : Int} (h : Cur s i) (c : Int) (n : Int) : ∃ b i' c', spec_l01Once.f s i c n = some (b, i', c') ∧ Cur s i' := by
  obtain ⟨x, i', c', e, _, _, _, hc⟩ := Below_ok h c n
  unfold spec_l01Once.f
  rw [e]
  exact ⟨_, _, _, rfl, hc⟩
theorem Pick_ok {s : List Int} {i : Int} (h : Cur s i) (c : Int) {l : List Int} (hl : 0 < l.length) (hl' : l.length ≤ 1000) : ∃ x i' c', spec_l01PickInt.f s i c l = some (x, i', c') ∧ x ∈ l ∧ Cur s i' := by
  obtain ⟨x, i', c', e, hx, hx', _, hc⟩ := Below_ok h c (l.length : Int)
  have := hx' (by omega)
  unfold spec_l01PickInt.f
  simp (disch := omega) only [e, w64, tmod_pos, tdiv_pos, ↓if_pos, ↓if_neg, if_pos, if_neg, if_true, if_false, Option.bind_some, Bool.false_eq_true, Bool.not_true, Bool.not_false, ↓reduceIte]
  exact ⟨_, _, _, rfl, rd_mem hx (by omega), hc⟩
theorem DrawField_ok {s : List Int} {i : Int} (h : Cur s i) (c : Int) : ∃ x i' c', spec_l01DrawField.f s i c = some (x, i', c') ∧ -1 ≤ x ∧ x ≤ 100 ∧ Cur s i' := by
  obtain ⟨b, i', c', e, hc⟩ := Once_ok h c 20
  unfold spec_l01DrawField.f
  rw [e]
  simp only [Option.bind_some]
  cases b with
  | true =>
    obtain ⟨x, i2, c2, e2, hx, hc2⟩ := Pick_ok hc c' (l := [(-1), 9, 100]) (by decide) (by decide)
    rw [if_pos rfl, e2]
    refine ⟨_, _, _, rfl, ?_, ?_, hc2⟩
    · simp at hx; show -1 ≤ x; omega
    · simp at hx; show x ≤ 100; omega
  | false =>
    obtain ⟨x, i2, c2, e2, hx, hx', _, hc2⟩ := Below_ok hc c' 9
    have := hx' (by omega)
    rw [if_neg (by decide), e2]
    refine ⟨_, _, _, rfl, ?_, ?_, hc2⟩
    · show -1 ≤ x; omega
    · show x ≤ 100; omega
theorem Modulus_any (f : Int) : ∃ p, spec_Modulus.f f = some p ∧ (p = 0 ∨ ∃ g t, FI f p g t) := by
  rcases FI.cases f with ⟨p, g, t, h⟩ | h
  · exact ⟨p, Modulus_ok h, .inr ⟨g, t, h⟩⟩
  · exact ⟨0, Modulus_no h, .inl rfl⟩
theorem DrawElement_ok {s : List Int} {i : Int} (h : Cur s i) (c : Int) (f : Int) : ∃ x i' c', spec_l01DrawElement.f s i c f = some (x, i', c') ∧ R64 x ∧ Cur s i' := by
  obtain ⟨p, ep, hp⟩ := Modulus_any f
  unfold spec_l01DrawElement.f
  rw [ep]
  simp only [Option.bind_some]
  rcases hp with rfl | ⟨g, t, hf⟩
  · obtain ⟨x, i2, c2, e2, hx, hx', _, hc2⟩ := Below_ok h c 50
    have := hx' (by omega)
    rw [if_pos rfl, e2]
    exact ⟨_, _, _, rfl, R64.of (show _ ≤ x by omega) (show x ≤ _ by omega), hc2⟩
  · have r := hf.isF.rng
    rw [if_neg (by omega)]
    obtain ⟨y, i1, c1, e1, hy, hy', _, hc1⟩ := Below_ok h c 6
    rw [e1]
    simp only [Option.bind_some]
    by_cases h0 : y = 0
    · rw [if_pos h0]
      obtain ⟨x, i2, c2, e2, hx, hx', _, hc2⟩ := Below_ok hc1 c1 3
      have q := emod_rng (p := p) (by omega) x
      rw [e2]
      refine ⟨_, _, _, rfl, ?_, hc2⟩
      show R64 (Int.tmod x p)
      rw [tmod_pos hx]
      exact R64.of (by omega) (by omega)
    rw [if_neg h0]
    by_cases h1 : y = 1
    · rw [if_pos h1]
      obtain ⟨x, i2, c2, e2, hx, hx', _, hc2⟩ := Below_ok hc1 c1 3
      rw [e2]
      exact ⟨_, _, _, rfl, R64.wrap _, hc2⟩
    rw [if_neg h1]
    by_cases h2 : y = 2
    · rw [if_pos h2]
      obtain ⟨x, i2, c2, e2, hx, hx', _, hc2⟩ := Below_ok hc1 c1 16777216
      obtain ⟨z, i3, c3, e3, hz, hz', _, hc3⟩ := Below_ok hc2 c2 256
      rw [e2]
      simp only [Option.bind_some]
      rw [e3]
      have l1 := tmod_lo (x := wrap64 (wrap64 (x * 61) + z)) (p := p) (by omega)
      have l2 := tmod_hi (x := wrap64 (wrap64 (x * 61) + z)) (p := p) (by omega)
      refine ⟨_, _, _, rfl, ?_, hc3⟩
      show R64 (Int.tmod (wrap64 (wrap64 (x * 61) + z)) p)
      exact R64.of (by omega) (by omega)
    · rw [if_neg h2]
      obtain ⟨x, i2, c2, e2, hx, hx', _, hc2⟩ := Below_ok hc1 c1 30
      have q := emod_rng (p := p) (by omega) x
      rw [e2]
      refine ⟨_, _, _, rfl, ?_, hc2⟩
      show R64 (Int.tmod x p)
      rw [tmod_pos hx]
      exact R64.of (by omega) (by omega)
theorem New_l0 (s : List Int) (hs : s.length ≤ 1048576) (d : Nat) : ∀ (i : Nat) (c : Int), s.length - i = d → i ≤ s.length → ∃ c', ∀ k, d < k → spec_l01New.l0 k s c i = some (s, 0, c') := by
  induction d with
  | zero =>
    intro i c hd hi
    refine ⟨c, fun k hk => ?_⟩
    obtain ⟨k, rfl⟩ : ∃ m, k = m + 1 := ⟨k - 1, by omega⟩
    simp only [spec_l01New.l0]
    rw [if_neg (by omega)]
  | succ d ih =>
    intro i c hd hi
    by_cases h4 : (i : Int) < 4000
    · obtain ⟨c', hc⟩ := ih (i + 1) (Go.bits .and .i64 (wrap64 ((wrap64 ((wrap64 (c * 149)) + (wrap64 (rd s i)))) + 11)) 1073741823) (by omega) (by omega)
      refine ⟨c', fun k hk => ?_⟩
      obtain ⟨k, rfl⟩ : ∃ m, k = m + 1 := ⟨k - 1, by omega⟩
      simp only [spec_l01New.l0]
      rw [if_pos (by omega), if_pos h4, if_pos (by omega), w64_succ (by omega)]
      exact hc k (by omega)
    · refine ⟨c, fun k hk => ?_⟩
      obtain ⟨k, rfl⟩ : ∃ m, k = m + 1 := ⟨k - 1, by omega⟩
      simp only [spec_l01New.l0]
      rw [if_pos (by omega), if_neg h4]
theorem New_ok {s : List Int} (hs : s.length ≤ 1048576) : ∃ c, Ev (fun k => spec_l01New.f k s) (s, 0, c) := by
  obtain ⟨c, hc⟩ := New_l0 s hs s.length 0 (wrap64 (710710 + (s.length : Int))) (by omega) (by omega)
  exact ⟨c, s.length + 1, fun k hk => hc k (by omega)⟩
theorem Cur.start {s : List Int} (hs : s.length ≤ 1048576) : Cur s 0 := ⟨by omega, by omega, by omega⟩
theorem big_ok {s : List Int} (hs : s.length ≤ 1048576) : laws_big.f s = some false := by
  unfold laws_big.f
  rw [decide_eq_false (by omega)]
theorem big_no {s : List Int} (hs : 1048576 < s.length) : laws_big.f s = some true := by
  unfold laws_big.f
  rw [decide_eq_true (by omega)]
theorem Size_ok {s : List Int} (hs : s.length ≤ 1048576) (m : Int) (hm : 0 ≤ m) : ∃ x, spec_l01Size.f s m = some x ∧ 0 ≤ x ∧ x ≤ m := by
  unfold spec_l01Size.f
  rw [w64 (x := (s.length : Int) / 16) (by omega) (by omega), w64 (by omega) (by omega)]
  by_cases h : 2 + (s.length : Int) / 16 > m
  · rw [if_pos h]
    exact ⟨_, rfl, hm, Int.le_refl _⟩
  · rw [if_neg h]
    exact ⟨_, rfl, by omega, by omega⟩

end Go.Proofs.Ytigfpkbdkdihbaa.M
