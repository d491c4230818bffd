/- Printed by the kit's print.py for this seat (by the session's seatprint.py): what the functions compute and that the machine comes to just that; no condition beyond those in the theorems. -/
import Derived.Test.YtohneiapknlpgaaG0
namespace Go.Proofs.Ytohneiapknlpgaa.P
open Go.RowKit Go.Proofs.YtohneiapknlpgaaW.PrintWords Go.Proofs.YtohneiapknlpgaaW.PrintLast Go.Proofs.YtohneiapknlpgaaW.PrintMore
attribute [local go_sem] max2_int min2_int max_two min_two max_three min_three max_four min_four   -- for this text's walks alone
set_option linter.unusedVariables false
set_option linter.unusedSimpArgs false

/-! ### spec_Modulus: function 47 -/
def spec_Modulus.f (a0 : Int) : Option (Int) := if a0 = 0 then (some 17) else (if a0 = 1 then (some 97) else (if a0 = 2 then (some 193) else (if a0 = 3 then (some 257) else (if a0 = 4 then (some 7681) else (if a0 = 5 then (some 12289) else (if a0 = 6 then (some 998244353) else (if a0 = 7 then (some 469762049) else (if a0 = 8 then (some 1004535809) else (some 0)))))))))
set_option maxHeartbeats 8000000 in
set_option maxRecDepth 100000 in
theorem spec_Modulus.calls (a0 : Int) (r : Int) (w : World) (h : spec_Modulus.f a0 = some r) :
    Calls Try.prog 47 #[.int .i64 a0] w fun e w' => e = .returned (.int .i64 r) ∧ Drawn0 w w' := by
  have H : (if a0 = 0 then (some 17) else (if a0 = 1 then (some 97) else (if a0 = 2 then (some 193) else (if a0 = 3 then (some 257) else (if a0 = 4 then (some 7681) else (if a0 = 5 then (some 12289) else (if a0 = 6 then (some 998244353) else (if a0 = 7 then (some 469762049) else (if a0 = 8 then (some 1004535809) else (some 0)))))))))) = some r := h
  clear h
  by_cases c2 : a0 = 0
  · rw [if_pos c2] at H
    have c2b0 : (a0 == 0) = true := beq_iff_eq.mpr c2
    have c2b1 : (a0 != 0) = false := bne_eq_false_iff_eq.mpr c2
    clear c2
    obtain rfl := Option.some.inj H
    go_enter Try.func47, Try.ntmps47
    go_wp2
    go_ret
    exact ⟨by first | rfl | (simp; done) | (simp [*]; done), by repeat (first | exact Drawn0.refl _ | apply Drawn0.step)⟩
  · rw [if_neg c2] at H
    have c2b0 : (a0 == 0) = false := beq_eq_false_iff_ne.mpr c2
    have c2b1 : (a0 != 0) = true := bne_iff_ne.mpr c2
    by_cases c3 : a0 = 1
    · rw [if_pos c3] at H
      have c3b0 : (a0 == 1) = true := beq_iff_eq.mpr c3
      have c3b1 : (a0 != 1) = false := bne_eq_false_iff_eq.mpr c3
      clear c3
      obtain rfl := Option.some.inj H
      go_enter Try.func47, Try.ntmps47
      go_wp2
      go_ret
      exact ⟨by first | rfl | (simp; done) | (simp [*]; done), by repeat (first | exact Drawn0.refl _ | apply Drawn0.step)⟩
    · rw [if_neg c3] at H
      have c3b0 : (a0 == 1) = false := beq_eq_false_iff_ne.mpr c3
      have c3b1 : (a0 != 1) = true := bne_iff_ne.mpr c3
      by_cases c4 : a0 = 2
      · rw [if_pos c4] at H
        have c4b0 : (a0 == 2) = true := beq_iff_eq.mpr c4
        have c4b1 : (a0 != 2) = false := bne_eq_false_iff_eq.mpr c4
        clear c4
        obtain rfl := Option.some.inj H
        go_enter Try.func47, Try.ntmps47
        go_wp2
        go_ret
        exact ⟨by first | rfl | (simp; done) | (simp [*]; done), by repeat (first | exact Drawn0.refl _ | apply Drawn0.step)⟩
      · rw [if_neg c4] at H
        have c4b0 : (a0 == 2) = false := beq_eq_false_iff_ne.mpr c4
        have c4b1 : (a0 != 2) = true := bne_iff_ne.mpr c4
        by_cases c5 : a0 = 3
        · rw [if_pos c5] at H
          have c5b0 : (a0 == 3) = true := beq_iff_eq.mpr c5
          have c5b1 : (a0 != 3) = false := bne_eq_false_iff_eq.mpr c5
          clear c5
          obtain rfl := Option.some.inj H
          go_enter Try.func47, Try.ntmps47
          go_wp2
          go_ret
          exact ⟨by first | rfl | (simp; done) | (simp [*]; done), by repeat (first | exact Drawn0.refl _ | apply Drawn0.step)⟩
        · rw [if_neg c5] at H
          have c5b0 : (a0 == 3) = false := beq_eq_false_iff_ne.mpr c5
          have c5b1 : (a0 != 3) = true := bne_iff_ne.mpr c5
          by_cases c6 : a0 = 4
          · rw [if_pos c6] at H
            have c6b0 : (a0 == 4) = true := beq_iff_eq.mpr c6
            have c6b1 : (a0 != 4) = false := bne_eq_false_iff_eq.mpr c6
            clear c6
            obtain rfl := Option.some.inj H
            go_enter Try.func47, Try.ntmps47
            go_wp2
            go_ret
            exact ⟨by first | rfl | (simp; done) | (simp [*]; done), by repeat (first | exact Drawn0.refl _ | apply Drawn0.step)⟩
          · rw [if_neg c6] at H
            have c6b0 : (a0 == 4) = false := beq_eq_false_iff_ne.mpr c6
            have c6b1 : (a0 != 4) = true := bne_iff_ne.mpr c6
            by_cases c7 : a0 = 5
            · rw [if_pos c7] at H
              have c7b0 : (a0 == 5) = true := beq_iff_eq.mpr c7
              have c7b1 : (a0 != 5) = false := bne_eq_false_iff_eq.mpr c7
              clear c7
              obtain rfl := Option.some.inj H
              go_enter Try.func47, Try.ntmps47
              go_wp2
              go_ret
              exact ⟨by first | rfl | (simp; done) | (simp [*]; done), by repeat (first | exact Drawn0.refl _ | apply Drawn0.step)⟩
            · rw [if_neg c7] at H
              have c7b0 : (a0 == 5) = false := beq_eq_false_iff_ne.mpr c7
              have c7b1 : (a0 != 5) = true := bne_iff_ne.mpr c7
              by_cases c8 : a0 = 6
              · rw [if_pos c8] at H
                have c8b0 : (a0 == 6) = true := beq_iff_eq.mpr c8
                have c8b1 : (a0 != 6) = false := bne_eq_false_iff_eq.mpr c8
                clear c8
                obtain rfl := Option.some.inj H
                go_enter Try.func47, Try.ntmps47
                go_wp2
                go_ret
                exact ⟨by first | rfl | (simp; done) | (simp [*]; done), by repeat (first | exact Drawn0.refl _ | apply Drawn0.step)⟩
              · rw [if_neg c8] at H
                have c8b0 : (a0 == 6) = false := beq_eq_false_iff_ne.mpr c8
                have c8b1 : (a0 != 6) = true := bne_iff_ne.mpr c8
                by_cases c9 : a0 = 7
                · rw [if_pos c9] at H
                  have c9b0 : (a0 == 7) = true := beq_iff_eq.mpr c9
                  have c9b1 : (a0 != 7) = false := bne_eq_false_iff_eq.mpr c9
                  clear c9
                  obtain rfl := Option.some.inj H
                  go_enter Try.func47, Try.ntmps47
                  go_wp2
                  go_ret
                  exact ⟨by first | rfl | (simp; done) | (simp [*]; done), by repeat (first | exact Drawn0.refl _ | apply Drawn0.step)⟩
                · rw [if_neg c9] at H
                  have c9b0 : (a0 == 7) = false := beq_eq_false_iff_ne.mpr c9
                  have c9b1 : (a0 != 7) = true := bne_iff_ne.mpr c9
                  by_cases c10 : a0 = 8
                  · rw [if_pos c10] at H
                    have c10b0 : (a0 == 8) = true := beq_iff_eq.mpr c10
                    have c10b1 : (a0 != 8) = false := bne_eq_false_iff_eq.mpr c10
                    clear c10
                    obtain rfl := Option.some.inj H
                    go_enter Try.func47, Try.ntmps47
                    go_wp2
                    go_ret
                    exact ⟨by first | rfl | (simp; done) | (simp [*]; done), by repeat (first | exact Drawn0.refl _ | apply Drawn0.step)⟩
                  · rw [if_neg c10] at H
                    have c10b0 : (a0 == 8) = false := beq_eq_false_iff_ne.mpr c10
                    have c10b1 : (a0 != 8) = true := bne_iff_ne.mpr c10
                    obtain rfl := Option.some.inj H
                    go_enter Try.func47, Try.ntmps47
                    go_wp2
                    go_ret
                    exact ⟨by first | rfl | (simp; done) | (simp [*]; done), by repeat (first | exact Drawn0.refl _ | apply Drawn0.step)⟩

/-! ### spec_Reduce: function 46 -/
def spec_Reduce.f (a0 : Int) (a1 : Int) : Option (Int) := (spec_Modulus.f a0).bind fun t101 => (if t101 = 0 then (some (-1)) else (if (Int.tmod a1 t101) < 0 then (some (wrap64 ((Int.tmod a1 t101) + t101))) else (some (Int.tmod a1 t101))))
set_option maxHeartbeats 8000000 in
set_option maxRecDepth 100000 in
theorem spec_Reduce.calls (a0 : Int) (a1 : Int) (r : Int) (w : World) (h : spec_Reduce.f a0 a1 = some r) :
    Calls Try.prog 46 #[.int .i64 a0, .int .i64 a1] w fun e w' => e = .returned (.int .i64 r) ∧ Drawn0 w w' := by
  have H : ((spec_Modulus.f a0).bind fun t101 => (if t101 = 0 then (some (-1)) else (if (Int.tmod a1 t101) < 0 then (some (wrap64 ((Int.tmod a1 t101) + t101))) else (some (Int.tmod a1 t101))))) = some r := h
  clear h
  replace H := Option.bind_eq_some_iff.mp H
  obtain ⟨t101, A30, H⟩ := H
  replace H : (if t101 = 0 then (some (-1)) else (if (Int.tmod a1 t101) < 0 then (some (wrap64 ((Int.tmod a1 t101) + t101))) else (some (Int.tmod a1 t101)))) = some r := H
  have A3 := Aside0.mk A30
  clear A30
  by_cases c4 : t101 = 0
  · rw [if_pos c4] at H
    have c4b0 : (t101 == 0) = true := beq_iff_eq.mpr c4
    have c4b1 : (t101 != 0) = false := bne_eq_false_iff_eq.mpr c4
    clear c4
    obtain rfl := Option.some.inj H
    go_enter Try.func46, Try.ntmps46
    go_wp2_with (first | ((with_reducible refine gate_callee (f := 47) rfl ?_); refine goesL_ (some 8) rfl rfl Try.func47 (by kernel_rfl) rfl #[.int .i64 a0] rfl (by (try simp only [List.map_toArray, List.map_cons, List.map_nil]); first | done | rfl | (simp only [List.length_drop, List.length_take]; rfl)) ?_; (with_reducible refine (spec_Modulus.calls a0 t101 _ A3.out).mono ?_); rintro e w' ⟨rfl, ⟨nd, rfl⟩⟩; refine ⟨_, rfl, ?_⟩))
    go_ret
    exact ⟨by first | rfl | (simp; done) | (simp [*]; done), by repeat (first | exact Drawn0.refl _ | apply Drawn0.step)⟩
  · rw [if_neg c4] at H
    have c4b0 : (t101 == 0) = false := beq_eq_false_iff_ne.mpr c4
    have c4b1 : (t101 != 0) = true := bne_iff_ne.mpr c4
    by_cases c5 : (Int.tmod a1 t101) < 0
    · rw [if_pos c5] at H
      have c5b0 : decide ((Int.tmod a1 t101) < 0) = true := decide_eq_true c5
      clear c5
      obtain rfl := Option.some.inj H
      go_enter Try.func46, Try.ntmps46
      go_wp2_with (first | ((with_reducible refine gate_callee (f := 47) rfl ?_); refine goesL_ (some 8) rfl rfl Try.func47 (by kernel_rfl) rfl #[.int .i64 a0] rfl (by (try simp only [List.map_toArray, List.map_cons, List.map_nil]); first | done | rfl | (simp only [List.length_drop, List.length_take]; rfl)) ?_; (with_reducible refine (spec_Modulus.calls a0 t101 _ A3.out).mono ?_); rintro e w' ⟨rfl, ⟨nd, rfl⟩⟩; refine ⟨_, rfl, ?_⟩))
      go_ret
      exact ⟨by first | rfl | (simp; done) | (simp [*]; done), by repeat (first | exact Drawn0.refl _ | apply Drawn0.step)⟩
    · rw [if_neg c5] at H
      have c5b0 : decide ((Int.tmod a1 t101) < 0) = false := decide_eq_false c5
      clear c5
      obtain rfl := Option.some.inj H
      go_enter Try.func46, Try.ntmps46
      go_wp2_with (first | ((with_reducible refine gate_callee (f := 47) rfl ?_); refine goesL_ (some 8) rfl rfl Try.func47 (by kernel_rfl) rfl #[.int .i64 a0] rfl (by (try simp only [List.map_toArray, List.map_cons, List.map_nil]); first | done | rfl | (simp only [List.length_drop, List.length_take]; rfl)) ?_; (with_reducible refine (spec_Modulus.calls a0 t101 _ A3.out).mono ?_); rintro e w' ⟨rfl, ⟨nd, rfl⟩⟩; refine ⟨_, rfl, ?_⟩))
      go_ret
      exact ⟨by first | rfl | (simp; done) | (simp [*]; done), by repeat (first | exact Drawn0.refl _ | apply Drawn0.step)⟩

/-! ### spec_Add: function 49 -/
def spec_Add.f (a0 : Int) (a1 : Int) (a2 : Int) : Option (Int) := (spec_Modulus.f a0).bind fun t102 => (if t102 = 0 then (some (-1)) else ((spec_Reduce.f a0 a1).bind fun t103 => ((spec_Reduce.f a0 a2).bind fun t104 => ((spec_Reduce.f a0 (wrap64 (t103 + t104))).bind fun t105 => (some t105)))))
set_option maxHeartbeats 8000000 in
set_option maxRecDepth 100000 in
theorem spec_Add.calls (a0 : Int) (a1 : Int) (a2 : Int) (r : Int) (w : World) (h : spec_Add.f a0 a1 a2 = some r) :
    Calls Try.prog 49 #[.int .i64 a0, .int .i64 a1, .int .i64 a2] w fun e w' => e = .returned (.int .i64 r) ∧ Drawn0 w w' := by
  have H : ((spec_Modulus.f a0).bind fun t102 => (if t102 = 0 then (some (-1)) else ((spec_Reduce.f a0 a1).bind fun t103 => ((spec_Reduce.f a0 a2).bind fun t104 => ((spec_Reduce.f a0 (wrap64 (t103 + t104))).bind fun t105 => (some t105)))))) = some r := h
  clear h
  replace H := Option.bind_eq_some_iff.mp H
  obtain ⟨t102, A40, H⟩ := H
  replace H : (if t102 = 0 then (some (-1)) else ((spec_Reduce.f a0 a1).bind fun t103 => ((spec_Reduce.f a0 a2).bind fun t104 => ((spec_Reduce.f a0 (wrap64 (t103 + t104))).bind fun t105 => (some t105))))) = some r := H
  have A4 := Aside0.mk A40
  clear A40
  by_cases c5 : t102 = 0
  · rw [if_pos c5] at H
    have c5b0 : (t102 == 0) = true := beq_iff_eq.mpr c5
    have c5b1 : (t102 != 0) = false := bne_eq_false_iff_eq.mpr c5
    clear c5
    obtain rfl := Option.some.inj H
    go_enter Try.func49, Try.ntmps49
    go_wp2_with (first | ((with_reducible refine gate_callee (f := 47) rfl ?_); refine goesL_ (some 8) rfl rfl Try.func47 (by kernel_rfl) rfl #[.int .i64 a0] rfl (by (try simp only [List.map_toArray, List.map_cons, List.map_nil]); first | done | rfl | (simp only [List.length_drop, List.length_take]; rfl)) ?_; (with_reducible refine (spec_Modulus.calls a0 t102 _ A4.out).mono ?_); rintro e w' ⟨rfl, ⟨nd, rfl⟩⟩; refine ⟨_, rfl, ?_⟩))
    go_ret
    exact ⟨by first | rfl | (simp; done) | (simp [*]; done), by repeat (first | exact Drawn0.refl _ | apply Drawn0.step)⟩
  · rw [if_neg c5] at H
    have c5b0 : (t102 == 0) = false := beq_eq_false_iff_ne.mpr c5
    have c5b1 : (t102 != 0) = true := bne_iff_ne.mpr c5
    replace H := Option.bind_eq_some_iff.mp H
    obtain ⟨t103, A60, H⟩ := H
    replace H : ((spec_Reduce.f a0 a2).bind fun t104 => ((spec_Reduce.f a0 (wrap64 (t103 + t104))).bind fun t105 => (some t105))) = some r := H
    have A6 := Aside0.mk A60
    clear A60
    replace H := Option.bind_eq_some_iff.mp H
    obtain ⟨t104, A70, H⟩ := H
    replace H : ((spec_Reduce.f a0 (wrap64 (t103 + t104))).bind fun t105 => (some t105)) = some r := H
    have A7 := Aside0.mk A70
    clear A70
    replace H := Option.bind_eq_some_iff.mp H
    obtain ⟨t105, A80, H⟩ := H
    replace H : (some t105) = some r := H
    have A8 := Aside0.mk A80
    clear A80
    obtain rfl := Option.some.inj H
    go_enter Try.func49, Try.ntmps49
    go_wp2_with (first | ((with_reducible refine gate_callee (f := 47) rfl ?_); refine goesL_ (some 8) rfl rfl Try.func47 (by kernel_rfl) rfl #[.int .i64 a0] rfl (by (try simp only [List.map_toArray, List.map_cons, List.map_nil]); first | done | rfl | (simp only [List.length_drop, List.length_take]; rfl)) ?_; (with_reducible refine (spec_Modulus.calls a0 t102 _ A4.out).mono ?_); rintro e w' ⟨rfl, ⟨nd, rfl⟩⟩; refine ⟨_, rfl, ?_⟩) | ((with_reducible refine gate_callee (f := 46) rfl ?_); refine goesL_ (some 13) rfl rfl Try.func46 (by kernel_rfl) rfl #[.int .i64 a0, .int .i64 a1] rfl (by (try simp only [List.map_toArray, List.map_cons, List.map_nil]); first | done | rfl | (simp only [List.length_drop, List.length_take]; rfl)) ?_; (with_reducible refine (spec_Reduce.calls a0 a1 t103 _ A6.out).mono ?_); rintro e w' ⟨rfl, ⟨nd, rfl⟩⟩; refine ⟨_, rfl, ?_⟩) | ((with_reducible refine gate_callee (f := 46) rfl ?_); refine goesL_ (some 16) rfl rfl Try.func46 (by kernel_rfl) rfl #[.int .i64 a0, .int .i64 a2] rfl (by (try simp only [List.map_toArray, List.map_cons, List.map_nil]); first | done | rfl | (simp only [List.length_drop, List.length_take]; rfl)) ?_; (with_reducible refine (spec_Reduce.calls a0 a2 t104 _ A7.out).mono ?_); rintro e w' ⟨rfl, ⟨nd, rfl⟩⟩; refine ⟨_, rfl, ?_⟩) | ((with_reducible refine gate_callee (f := 46) rfl ?_); refine goesL_ (some 18) rfl rfl Try.func46 (by kernel_rfl) rfl #[.int .i64 a0, .int .i64 (wrap64 (t103 + t104))] rfl (by (try simp only [List.map_toArray, List.map_cons, List.map_nil]); first | done | rfl | (simp only [List.length_drop, List.length_take]; rfl)) ?_; (with_reducible refine (spec_Reduce.calls a0 (wrap64 (t103 + t104)) t105 _ A8.out).mono ?_); rintro e w' ⟨rfl, ⟨nd, rfl⟩⟩; refine ⟨_, rfl, ?_⟩))
    go_ret
    exact ⟨by first | rfl | (simp; done) | (simp [*]; done), by repeat (first | exact Drawn0.refl _ | apply Drawn0.step)⟩

/-! ### spec_Mul: function 50 -/
def spec_Mul.f (a0 : Int) (a1 : Int) (a2 : Int) : Option (Int) := (spec_Modulus.f a0).bind fun t106 => (if t106 = 0 then (some (-1)) else ((spec_Reduce.f a0 a1).bind fun t107 => ((spec_Reduce.f a0 a2).bind fun t108 => ((spec_Reduce.f a0 (wrap64 (t107 * t108))).bind fun t109 => (some t109)))))
set_option maxHeartbeats 8000000 in
set_option maxRecDepth 100000 in
theorem spec_Mul.calls (a0 : Int) (a1 : Int) (a2 : Int) (r : Int) (w : World) (h : spec_Mul.f a0 a1 a2 = some r) :
    Calls Try.prog 50 #[.int .i64 a0, .int .i64 a1, .int .i64 a2] w fun e w' => e = .returned (.int .i64 r) ∧ Drawn0 w w' := by
  have H : ((spec_Modulus.f a0).bind fun t106 => (if t106 = 0 then (some (-1)) else ((spec_Reduce.f a0 a1).bind fun t107 => ((spec_Reduce.f a0 a2).bind fun t108 => ((spec_Reduce.f a0 (wrap64 (t107 * t108))).bind fun t109 => (some t109)))))) = some r := h
  clear h
  replace H := Option.bind_eq_some_iff.mp H
  obtain ⟨t106, A40, H⟩ := H
  replace H : (if t106 = 0 then (some (-1)) else ((spec_Reduce.f a0 a1).bind fun t107 => ((spec_Reduce.f a0 a2).bind fun t108 => ((spec_Reduce.f a0 (wrap64 (t107 * t108))).bind fun t109 => (some t109))))) = some r := H
  have A4 := Aside0.mk A40
  clear A40
  by_cases c5 : t106 = 0
  · rw [if_pos c5] at H
    have c5b0 : (t106 == 0) = true := beq_iff_eq.mpr c5
    have c5b1 : (t106 != 0) = false := bne_eq_false_iff_eq.mpr c5
    clear c5
    obtain rfl := Option.some.inj H
    go_enter Try.func50, Try.ntmps50
    go_wp2_with (first | ((with_reducible refine gate_callee (f := 47) rfl ?_); refine goesL_ (some 8) rfl rfl Try.func47 (by kernel_rfl) rfl #[.int .i64 a0] rfl (by (try simp only [List.map_toArray, List.map_cons, List.map_nil]); first | done | rfl | (simp only [List.length_drop, List.length_take]; rfl)) ?_; (with_reducible refine (spec_Modulus.calls a0 t106 _ A4.out).mono ?_); rintro e w' ⟨rfl, ⟨nd, rfl⟩⟩; refine ⟨_, rfl, ?_⟩))
    go_ret
    exact ⟨by first | rfl | (simp; done) | (simp [*]; done), by repeat (first | exact Drawn0.refl _ | apply Drawn0.step)⟩
  · rw [if_neg c5] at H
    have c5b0 : (t106 == 0) = false := beq_eq_false_iff_ne.mpr c5
    have c5b1 : (t106 != 0) = true := bne_iff_ne.mpr c5
    replace H := Option.bind_eq_some_iff.mp H
    obtain ⟨t107, A60, H⟩ := H
    replace H : ((spec_Reduce.f a0 a2).bind fun t108 => ((spec_Reduce.f a0 (wrap64 (t107 * t108))).bind fun t109 => (some t109))) = some r := H
    have A6 := Aside0.mk A60
    clear A60
    replace H := Option.bind_eq_some_iff.mp H
    obtain ⟨t108, A70, H⟩ := H
    replace H : ((spec_Reduce.f a0 (wrap64 (t107 * t108))).bind fun t109 => (some t109)) = some r := H
    have A7 := Aside0.mk A70
    clear A70
    replace H := Option.bind_eq_some_iff.mp H
    obtain ⟨t109, A80, H⟩ := H
    replace H : (some t109) = some r := H
    have A8 := Aside0.mk A80
    clear A80
    obtain rfl := Option.some.inj H
    go_enter Try.func50, Try.ntmps50
    go_wp2_with (first | ((with_reducible refine gate_callee (f := 47) rfl ?_); refine goesL_ (some 8) rfl rfl Try.func47 (by kernel_rfl) rfl #[.int .i64 a0] rfl (by (try simp only [List.map_toArray, List.map_cons, List.map_nil]); first | done | rfl | (simp only [List.length_drop, List.length_take]; rfl)) ?_; (with_reducible refine (spec_Modulus.calls a0 t106 _ A4.out).mono ?_); rintro e w' ⟨rfl, ⟨nd, rfl⟩⟩; refine ⟨_, rfl, ?_⟩) | ((with_reducible refine gate_callee (f := 46) rfl ?_); refine goesL_ (some 13) rfl rfl Try.func46 (by kernel_rfl) rfl #[.int .i64 a0, .int .i64 a1] rfl (by (try simp only [List.map_toArray, List.map_cons, List.map_nil]); first | done | rfl | (simp only [List.length_drop, List.length_take]; rfl)) ?_; (with_reducible refine (spec_Reduce.calls a0 a1 t107 _ A6.out).mono ?_); rintro e w' ⟨rfl, ⟨nd, rfl⟩⟩; refine ⟨_, rfl, ?_⟩) | ((with_reducible refine gate_callee (f := 46) rfl ?_); refine goesL_ (some 16) rfl rfl Try.func46 (by kernel_rfl) rfl #[.int .i64 a0, .int .i64 a2] rfl (by (try simp only [List.map_toArray, List.map_cons, List.map_nil]); first | done | rfl | (simp only [List.length_drop, List.length_take]; rfl)) ?_; (with_reducible refine (spec_Reduce.calls a0 a2 t108 _ A7.out).mono ?_); rintro e w' ⟨rfl, ⟨nd, rfl⟩⟩; refine ⟨_, rfl, ?_⟩) | ((with_reducible refine gate_callee (f := 46) rfl ?_); refine goesL_ (some 18) rfl rfl Try.func46 (by kernel_rfl) rfl #[.int .i64 a0, .int .i64 (wrap64 (t107 * t108))] rfl (by (try simp only [List.map_toArray, List.map_cons, List.map_nil]); first | done | rfl | (simp only [List.length_drop, List.length_take]; rfl)) ?_; (with_reducible refine (spec_Reduce.calls a0 (wrap64 (t107 * t108)) t109 _ A8.out).mono ?_); rintro e w' ⟨rfl, ⟨nd, rfl⟩⟩; refine ⟨_, rfl, ?_⟩))
    go_ret
    exact ⟨by first | rfl | (simp; done) | (simp [*]; done), by repeat (first | exact Drawn0.refl _ | apply Drawn0.step)⟩

/-! ### spec_Dot: function 15 -/
mutual
def spec_Dot.j0 : Nat → Int → List Int → List Int → Bool → Option (Int)
  | 0, _, _, _, _ => none
  | k + 1, x0, x1, x2, x21 => if x21 = true then (some (-1)) else (spec_Dot.l0 k x0 x1 x2 0 0)
def spec_Dot.l0 : Nat → Int → List Int → List Int → Int → Int → Option (Int)
  | 0, _, _, _, _, _ => none
  | k + 1, x0, x1, x2, x7, x8 => if x8 < (x1.length : Int) then (spec_Dot.j2 k x0 x1 x2 x7 x8 (decide (x8 < (x2.length : Int)))) else (spec_Dot.j2 k x0 x1 x2 x7 x8 false)
def spec_Dot.j2 : Nat → Int → List Int → List Int → Int → Int → Bool → Option (Int)
  | 0, _, _, _, _, _, _ => none
  | k + 1, x0, x1, x2, x7, x8, x31 => if x31 = true then (if 0 ≤ x8 then (if x8 < (x1.length : Int) then (if x8 < (x2.length : Int) then ((spec_Mul.f x0 (rd x1 x8) (rd x2 x8)).bind fun t113 => ((spec_Add.f x0 x7 t113).bind fun t114 => (spec_Dot.l0 k x0 x1 x2 t114 (wrap64 (x8 + 1))))) else (none)) else (none)) else (none)) else (some x7)
end
def spec_Dot.f (k : Nat) (a0 : Int) (l1 : List Int) (l2 : List Int) : Option (Int) := (spec_Modulus.f a0).bind fun t110 => (if t110 = 0 then (spec_Dot.j0 k a0 l1 l2 true) else (if (l1.length : Int) > 4096 then (spec_Dot.j0 k a0 l1 l2 true) else (spec_Dot.j0 k a0 l1 l2 (decide ((l2.length : Int) > 4096)))))
theorem spec_Dot.mono_l : ∀ k, (∀ y0 y1 y2 y3, LeO (spec_Dot.j0 k y0 y1 y2 y3) (spec_Dot.j0 (k + 1) y0 y1 y2 y3)) ∧ (∀ y0 y1 y2 y3 y4, LeO (spec_Dot.l0 k y0 y1 y2 y3 y4) (spec_Dot.l0 (k + 1) y0 y1 y2 y3 y4)) ∧ (∀ y0 y1 y2 y3 y4 y5, LeO (spec_Dot.j2 k y0 y1 y2 y3 y4 y5) (spec_Dot.j2 (k + 1) y0 y1 y2 y3 y4 y5))
  | 0 => ⟨fun _ _ _ _ r h => by simp [spec_Dot.j0] at h, fun _ _ _ _ _ r h => by simp [spec_Dot.l0] at h, fun _ _ _ _ _ _ r h => by simp [spec_Dot.j2] at h⟩
  | k + 1 => by
    obtain ⟨ih0, ih1, ih2⟩ := spec_Dot.mono_l k
    refine ⟨?_, ?_, ?_⟩
    · intro y0 y1 y2 y3
      unfold spec_Dot.j0
      repeat' first
      | (with_reducible exact ih0 _ _ _ _)
      | (with_reducible exact ih1 _ _ _ _ _)
      | (with_reducible exact ih2 _ _ _ _ _ _)
      | (with_reducible exact LeO.refl _)
      | (with_reducible exact LeO.none _)
      | (with_reducible refine LeO.ite ?_ ?_)
      | (with_reducible refine LeO.bind ?_ (fun _ => ?_))
      | exact ih0 _ _ _ _
      | exact ih1 _ _ _ _ _
      | exact ih2 _ _ _ _ _ _
      | exact LeO.none _
      | refine LeO.ite ?_ ?_
      | refine LeO.bind ?_ (fun _ => ?_)
    · intro y0 y1 y2 y3 y4
      unfold spec_Dot.l0
      repeat' first
      | (with_reducible exact ih0 _ _ _ _)
      | (with_reducible exact ih1 _ _ _ _ _)
      | (with_reducible exact ih2 _ _ _ _ _ _)
      | (with_reducible exact LeO.refl _)
      | (with_reducible exact LeO.none _)
      | (with_reducible refine LeO.ite ?_ ?_)
      | (with_reducible refine LeO.bind ?_ (fun _ => ?_))
      | exact ih0 _ _ _ _
      | exact ih1 _ _ _ _ _
      | exact ih2 _ _ _ _ _ _
      | exact LeO.none _
      | refine LeO.ite ?_ ?_
      | refine LeO.bind ?_ (fun _ => ?_)
    · intro y0 y1 y2 y3 y4 y5
      unfold spec_Dot.j2
      repeat' first
      | (with_reducible exact ih0 _ _ _ _)
      | (with_reducible exact ih1 _ _ _ _ _)
      | (with_reducible exact ih2 _ _ _ _ _ _)
      | (with_reducible exact LeO.refl _)
      | (with_reducible exact LeO.none _)
      | (with_reducible refine LeO.ite ?_ ?_)
      | (with_reducible refine LeO.bind ?_ (fun _ => ?_))
      | exact ih0 _ _ _ _
      | exact ih1 _ _ _ _ _
      | exact ih2 _ _ _ _ _ _
      | exact LeO.none _
      | refine LeO.ite ?_ ?_
      | refine LeO.bind ?_ (fun _ => ?_)
theorem spec_Dot.mono : ∀ a0 a1 a2 k, LeO (spec_Dot.f k a0 a1 a2) (spec_Dot.f (k + 1) a0 a1 a2) := by
  intro a0 a1 a2 k
  obtain ⟨ih0, ih1, ih2⟩ := spec_Dot.mono_l k
  unfold spec_Dot.f
  repeat' first
      | (with_reducible exact ih0 _ _ _ _)
      | (with_reducible exact ih1 _ _ _ _ _)
      | (with_reducible exact ih2 _ _ _ _ _ _)
      | (with_reducible exact LeO.refl _)
      | (with_reducible exact LeO.none _)
      | (with_reducible refine LeO.ite ?_ ?_)
      | (with_reducible refine LeO.bind ?_ (fun _ => ?_))
      | exact ih0 _ _ _ _
      | exact ih1 _ _ _ _ _
      | exact ih2 _ _ _ _ _ _
      | exact LeO.none _
      | refine LeO.ite ?_ ?_
      | refine LeO.bind ?_ (fun _ => ?_)
set_option maxHeartbeats 8000000 in
set_option maxRecDepth 100000 in
theorem spec_Dot.calls (k : Nat) (a0 : Int) (A1 : Option Addr) (c1 : Nat) (l1 : List Int) (A2 : Option Addr) (c2 : Nat) (l2 : List Int) (r : Int) (w : World) (hr1 : Kd.C (Kd.int .i64) w A1 l1.length l1) (hc1 : l1.length ≤ c1) (hr2 : Kd.C (Kd.int .i64) w A2 l2.length l2) (hc2 : l2.length ≤ c2) (h : spec_Dot.f k a0 l1 l2 = some r) :
    Calls Try.prog 15 #[.int .i64 a0, .slice A1 l1.length c1, .slice A2 l2.length c2] w fun e w' => e = .returned (.int .i64 r) ∧ Drawn0 w w' := by
  have HR1 := Aside0.mk hr1
  have HC1 := Aside0.mk hc1
  clear hr1 hc1
  have HR2 := Aside0.mk hr2
  have HC2 := Aside0.mk hc2
  clear hr2 hc2
  have H : ((spec_Modulus.f a0).bind fun t110 => (if t110 = 0 then (spec_Dot.j0 k a0 l1 l2 true) else (if (l1.length : Int) > 4096 then (spec_Dot.j0 k a0 l1 l2 true) else (spec_Dot.j0 k a0 l1 l2 (decide ((l2.length : Int) > 4096)))))) = some r := h
  clear h
  have HC4 := Aside0.mk H
  clear H
  go_enter Try.func15, Try.ntmps15
  go_upto_region 1 with (fail)
  repeat (go_quiet (fail); go_upto_region 1 with (fail))
  go_cut [21] (fun v21 wc => ∃ (kq : Nat) (x21_3 : Bool), v21 = .bool x21_3 ∧ Aside0 (spec_Dot.j0 kq a0 l1 l2 x21_3 = some r) ∧ Aside0 (kq ≤ k) ∧ Drawn0 w wc)
  case first =>
    have H := HC4.out
    clear HC4
    replace H := Option.bind_eq_some_iff.mp H
    obtain ⟨t110, A50, H⟩ := H
    replace H : (if t110 = 0 then (spec_Dot.j0 k a0 l1 l2 true) else (if (l1.length : Int) > 4096 then (spec_Dot.j0 k a0 l1 l2 true) else (spec_Dot.j0 k a0 l1 l2 (decide ((l2.length : Int) > 4096))))) = some r := H
    have A5 := Aside0.mk A50
    clear A50
    by_cases c6 : t110 = 0
    · rw [if_pos c6] at H
      have c6b0 : (t110 == 0) = true := beq_iff_eq.mpr c6
      have c6b1 : (t110 != 0) = false := bne_eq_false_iff_eq.mpr c6
      clear c6
      (first | rw [c6b0] | (simp only [i64_w, i32_w]; rw [c6b0]) | skip)
      have H' := Aside0.mk H
      clear H
      go_wp2_with (first | (go_at_call 47; (with_reducible refine (spec_Modulus.calls a0 t110 _ A5.out).mono ?_); rintro e w' ⟨rfl, ⟨nd, rfl⟩⟩; (try first | exact ⟨rfl, _, World.drewN_drewN _ _ _⟩ | exact ⟨rfl, _, Eq.trans (World.drewN_drewN _ _ _) (congrArg (World.drewN _) (Nat.add_assoc _ _ _))⟩)))
      repeat (go_quiet (first | (go_at_call 47; (with_reducible refine (spec_Modulus.calls a0 t110 _ A5.out).mono ?_); rintro e w' ⟨rfl, ⟨nd, rfl⟩⟩; (try first | exact ⟨rfl, _, World.drewN_drewN _ _ _⟩ | exact ⟨rfl, _, Eq.trans (World.drewN_drewN _ _ _) (congrArg (World.drewN _) (Nat.add_assoc _ _ _))⟩))); try go_wp2_with (first | (go_at_call 47; (with_reducible refine (spec_Modulus.calls a0 t110 _ A5.out).mono ?_); rintro e w' ⟨rfl, ⟨nd, rfl⟩⟩; (try first | exact ⟨rfl, _, World.drewN_drewN _ _ _⟩ | exact ⟨rfl, _, Eq.trans (World.drewN_drewN _ _ _) (congrArg (World.drewN _) (Nat.add_assoc _ _ _))⟩))))
      go_meet
      case rel => exact ⟨_, (true), (by first | rfl | (simp; done) | (simp [*]; done)), H', ⟨by first | omega | exact Nat.le_refl _⟩, by repeat (first | exact Drawn0.refl _ | apply Drawn0.step)⟩
    · rw [if_neg c6] at H
      have c6b0 : (t110 == 0) = false := beq_eq_false_iff_ne.mpr c6
      have c6b1 : (t110 != 0) = true := bne_iff_ne.mpr c6
      (first | rw [c6b0] | (simp only [i64_w, i32_w]; rw [c6b0]) | skip)
      by_cases c7 : (l1.length : Int) > 4096
      · rw [if_pos c7] at H
        have c7b0 : decide (4096 < (l1.length : Int)) = true := decide_eq_true c7
        have c7b1 : decide (4096 < l1.length) = true := decide_eq_true (by omega)
        clear c7
        have H' := Aside0.mk H
        clear H
        go_wp2_with (first | (go_at_call 47; (with_reducible refine (spec_Modulus.calls a0 t110 _ A5.out).mono ?_); rintro e w' ⟨rfl, ⟨nd, rfl⟩⟩; (try first | exact ⟨rfl, _, World.drewN_drewN _ _ _⟩ | exact ⟨rfl, _, Eq.trans (World.drewN_drewN _ _ _) (congrArg (World.drewN _) (Nat.add_assoc _ _ _))⟩)))
        repeat (go_quiet (first | (go_at_call 47; (with_reducible refine (spec_Modulus.calls a0 t110 _ A5.out).mono ?_); rintro e w' ⟨rfl, ⟨nd, rfl⟩⟩; (try first | exact ⟨rfl, _, World.drewN_drewN _ _ _⟩ | exact ⟨rfl, _, Eq.trans (World.drewN_drewN _ _ _) (congrArg (World.drewN _) (Nat.add_assoc _ _ _))⟩))); try go_wp2_with (first | (go_at_call 47; (with_reducible refine (spec_Modulus.calls a0 t110 _ A5.out).mono ?_); rintro e w' ⟨rfl, ⟨nd, rfl⟩⟩; (try first | exact ⟨rfl, _, World.drewN_drewN _ _ _⟩ | exact ⟨rfl, _, Eq.trans (World.drewN_drewN _ _ _) (congrArg (World.drewN _) (Nat.add_assoc _ _ _))⟩))))
        go_meet
        case rel => exact ⟨_, (true), (by first | rfl | (simp; done) | (simp [*]; done)), H', ⟨by first | omega | exact Nat.le_refl _⟩, by repeat (first | exact Drawn0.refl _ | apply Drawn0.step)⟩
      · rw [if_neg c7] at H
        have c7b0 : decide (4096 < (l1.length : Int)) = false := decide_eq_false c7
        have c7b1 : decide (4096 < l1.length) = false := decide_eq_false (by omega)
        clear c7
        have H' := Aside0.mk H
        clear H
        go_wp2_with (first | (go_at_call 47; (with_reducible refine (spec_Modulus.calls a0 t110 _ A5.out).mono ?_); rintro e w' ⟨rfl, ⟨nd, rfl⟩⟩; (try first | exact ⟨rfl, _, World.drewN_drewN _ _ _⟩ | exact ⟨rfl, _, Eq.trans (World.drewN_drewN _ _ _) (congrArg (World.drewN _) (Nat.add_assoc _ _ _))⟩)))
        repeat (go_quiet (first | (go_at_call 47; (with_reducible refine (spec_Modulus.calls a0 t110 _ A5.out).mono ?_); rintro e w' ⟨rfl, ⟨nd, rfl⟩⟩; (try first | exact ⟨rfl, _, World.drewN_drewN _ _ _⟩ | exact ⟨rfl, _, Eq.trans (World.drewN_drewN _ _ _) (congrArg (World.drewN _) (Nat.add_assoc _ _ _))⟩))); try go_wp2_with (first | (go_at_call 47; (with_reducible refine (spec_Modulus.calls a0 t110 _ A5.out).mono ?_); rintro e w' ⟨rfl, ⟨nd, rfl⟩⟩; (try first | exact ⟨rfl, _, World.drewN_drewN _ _ _⟩ | exact ⟨rfl, _, Eq.trans (World.drewN_drewN _ _ _) (congrArg (World.drewN _) (Nat.add_assoc _ _ _))⟩))))
        go_meet
        case rel => exact ⟨_, (decide ((l2.length : Int) > 4096)), (by first | rfl | (simp; done) | (simp [*]; done)), H', ⟨by first | omega | exact Nat.le_refl _⟩, by repeat (first | exact Drawn0.refl _ | apply Drawn0.step)⟩
  case rest =>
    clear HC4
    try clear c1
    try clear c2
    try clear p2
    try clear c6
    try clear c6b0
    try clear c6b1
    try clear c7
    try clear c7b0
    try clear c7b1
    obtain ⟨kq, x21_3, rfl, HA, HJ3, ⟨mc3, rfl⟩⟩ := hcut
    cases kq with
    | zero => exact absurd HA.out (by simp [spec_Dot.j0])
    | succ kj3 =>
      have H := HA.out
      clear HA
      simp only [spec_Dot.j0] at H
      by_cases c8 : x21_3 = true
      · subst c8
        have H1 : (some (-1)) = some r := by rw [if_pos rfl] at H; exact H
        clear H
        have H := H1
        clear H1
        obtain rfl := Option.some.inj H
        go_wp2
        repeat (go_quiet (fail); try go_wp2)
        go_ret
        exact ⟨by first | rfl | (simp; done) | (simp [*]; done), by repeat (first | exact Drawn0.refl _ | apply Drawn0.step)⟩
      · replace c8 := Bool.eq_false_iff.mpr c8
        subst c8
        have H1 : (spec_Dot.l0 kj3 a0 l1 l2 0 0) = some r := by rw [if_neg (show ¬ (false = true) by decide)] at H; exact H
        clear H
        have H := H1
        clear H1
        have H' := Aside0.mk H
        clear H
        go_wp2
        repeat (go_quiet (fail); try go_wp2)
        go_loopg [7, 8] kj3 (fun kq v7 v8 w' => ∃ (x7_2 : Int) (x8_2 : Int), v7 = .int .i64 x7_2 ∧ v8 = .int .i64 x8_2 ∧ Aside0 (spec_Dot.l0 kq a0 l1 l2 x7_2 x8_2 = some r) ∧ Aside0 (kq ≤ kj3) ∧ Drawn0 w w')
        case atStart => exact ⟨(0), (0), (by first | rfl | (simp; done) | (simp [*]; done)), (by first | rfl | (simp; done) | (simp [*]; done)), H', ⟨Nat.le_refl _⟩, by repeat (first | exact Drawn0.refl _ | apply Drawn0.step)⟩
        case round =>
          clear H'
          try clear c1
          try clear c2
          try clear p2
          try clear c3
          try clear c6
          try clear c6b0
          try clear c6b1
          try clear c7
          try clear c7b0
          try clear c7b1
          try clear c8
          try clear p2
          obtain ⟨x7_2, x8_2, rfl, rfl, HA, HK2, ⟨m2, rfl⟩⟩ := hrel
          cases gk with
          | zero => exact absurd HA.out (by simp [spec_Dot.l0])
          | succ k2 =>
            have H := HA.out
            clear HA
            simp only [spec_Dot.l0] at H
            have HC9 := Aside0.mk H
            clear H
            go_upto_region 5 with (fail)
            repeat (go_quiet (fail); go_upto_region 5 with (fail))
            go_cut [31] (fun v31 wc => ∃ (kq : Nat) (x31_8 : Bool), v31 = .bool x31_8 ∧ Aside0 (spec_Dot.j2 kq a0 l1 l2 x7_2 x8_2 x31_8 = some r) ∧ Aside0 (kq ≤ k2) ∧ Drawn0 w wc)
            case first =>
              have H := HC9.out
              clear HC9
              by_cases c10 : x8_2 < (l1.length : Int)
              · rw [if_pos c10] at H
                have c10b0 : decide (x8_2 < (l1.length : Int)) = true := decide_eq_true c10
                clear c10
                (first | rw [c10b0] | (simp only [i64_w, i32_w]; rw [c10b0]) | skip)
                have H' := Aside0.mk H
                clear H
                go_wp2
                repeat (go_quiet (fail); try go_wp2)
                go_meet
                case rel => exact ⟨_, (decide (x8_2 < (l2.length : Int))), (by first | rfl | (simp; done) | (simp [*]; done)), H', ⟨by have := HJ3.out; have := HK2.out; first | omega | exact Nat.le_refl _⟩, by repeat (first | exact Drawn0.refl _ | apply Drawn0.step)⟩
              · rw [if_neg c10] at H
                have c10b0 : decide (x8_2 < (l1.length : Int)) = false := decide_eq_false c10
                clear c10
                (first | rw [c10b0] | (simp only [i64_w, i32_w]; rw [c10b0]) | skip)
                have H' := Aside0.mk H
                clear H
                go_wp2
                repeat (go_quiet (fail); try go_wp2)
                go_meet
                case rel => exact ⟨_, (false), (by first | rfl | (simp; done) | (simp [*]; done)), H', ⟨by have := HJ3.out; have := HK2.out; first | omega | exact Nat.le_refl _⟩, by repeat (first | exact Drawn0.refl _ | apply Drawn0.step)⟩
            case rest =>
              clear HC9
              try clear c1
              try clear c2
              try clear p2
              try clear c3
              try clear c6
              try clear c6b0
              try clear c6b1
              try clear c7
              try clear c7b0
              try clear c7b1
              try clear c8
              try clear c10
              try clear c10b0
              try clear p2
              obtain ⟨kq, x31_8, rfl, HA, HJ8, ⟨mc8, rfl⟩⟩ := hcut
              cases kq with
              | zero => exact absurd HA.out (by simp [spec_Dot.j2])
              | succ kj8 =>
                have H := HA.out
                clear HA
                simp only [spec_Dot.j2] at H
                by_cases c11 : x31_8 = true
                · subst c11
                  have H1 : (if 0 ≤ x8_2 then (if x8_2 < (l1.length : Int) then (if x8_2 < (l2.length : Int) then ((spec_Mul.f a0 (rd l1 x8_2) (rd l2 x8_2)).bind fun t113 => ((spec_Add.f a0 x7_2 t113).bind fun t114 => (spec_Dot.l0 kj8 a0 l1 l2 t114 (wrap64 (x8_2 + 1))))) else (none)) else (none)) else (none)) = some r := by rw [if_pos rfl] at H; exact H
                  clear H
                  have H := H1
                  clear H1
                  by_cases c12 : 0 ≤ x8_2
                  · rw [if_pos c12] at H
                    have c12b0 : decide (0 ≤ x8_2) = true := decide_eq_true c12
                    clear c12
                    by_cases c13 : x8_2 < (l1.length : Int)
                    · rw [if_pos c13] at H
                      have c13b0 : decide (x8_2 < (l1.length : Int)) = true := decide_eq_true c13
                      clear c13
                      by_cases c14 : x8_2 < (l2.length : Int)
                      · rw [if_pos c14] at H
                        have c14b0 : decide (x8_2 < (l2.length : Int)) = true := decide_eq_true c14
                        clear c14
                        replace H := Option.bind_eq_some_iff.mp H
                        obtain ⟨t113, A150, H⟩ := H
                        replace H : ((spec_Add.f a0 x7_2 t113).bind fun t114 => (spec_Dot.l0 kj8 a0 l1 l2 t114 (wrap64 (x8_2 + 1)))) = some r := H
                        have A15 := Aside0.mk A150
                        clear A150
                        replace H := Option.bind_eq_some_iff.mp H
                        obtain ⟨t114, A160, H⟩ := H
                        replace H : (spec_Dot.l0 kj8 a0 l1 l2 t114 (wrap64 (x8_2 + 1))) = some r := H
                        have A16 := Aside0.mk A160
                        clear A160
                        have H' := Aside0.mk H
                        clear H
                        have p111 : 0 ≤ (x8_2 : Int) := of_decide_eq_true (by first | (with_reducible assumption) | assumption)
                        have q111 : x8_2 < (l1.length : Int) := of_decide_eq_true (by first | (with_reducible assumption) | assumption)
                        obtain ⟨ad111, e111, hx111_0⟩ := Kd.at_int HR1.out x8_2 p111 q111
                        cases e111
                        replace p111 := eq_true p111
                        replace q111 := eq_true q111
                        have p112 : 0 ≤ (x8_2 : Int) := of_decide_eq_true (by first | (with_reducible assumption) | assumption)
                        have q112 : x8_2 < (l2.length : Int) := of_decide_eq_true (by first | (with_reducible assumption) | assumption)
                        obtain ⟨ad112, e112, hx112_0⟩ := Kd.at_int HR2.out x8_2 p112 q112
                        cases e112
                        replace p112 := eq_true p112
                        replace q112 := eq_true q112
                        go_wp2_with (first | (go_at_call 50; (with_reducible refine (spec_Mul.calls a0 (rd l1 x8_2) (rd l2 x8_2) t113 _ A15.out).mono ?_); rintro e w' ⟨rfl, ⟨nd, rfl⟩⟩; (try first | exact ⟨rfl, _, World.drewN_drewN _ _ _⟩ | exact ⟨rfl, _, Eq.trans (World.drewN_drewN _ _ _) (congrArg (World.drewN _) (Nat.add_assoc _ _ _))⟩)) | (go_at_call 49; (with_reducible refine (spec_Add.calls a0 x7_2 t113 t114 _ A16.out).mono ?_); rintro e w' ⟨rfl, ⟨nd, rfl⟩⟩; (try first | exact ⟨rfl, _, World.drewN_drewN _ _ _⟩ | exact ⟨rfl, _, Eq.trans (World.drewN_drewN _ _ _) (congrArg (World.drewN _) (Nat.add_assoc _ _ _))⟩)))
                        repeat (go_quiet (first | (go_at_call 50; (with_reducible refine (spec_Mul.calls a0 (rd l1 x8_2) (rd l2 x8_2) t113 _ A15.out).mono ?_); rintro e w' ⟨rfl, ⟨nd, rfl⟩⟩; (try first | exact ⟨rfl, _, World.drewN_drewN _ _ _⟩ | exact ⟨rfl, _, Eq.trans (World.drewN_drewN _ _ _) (congrArg (World.drewN _) (Nat.add_assoc _ _ _))⟩)) | (go_at_call 49; (with_reducible refine (spec_Add.calls a0 x7_2 t113 t114 _ A16.out).mono ?_); rintro e w' ⟨rfl, ⟨nd, rfl⟩⟩; (try first | exact ⟨rfl, _, World.drewN_drewN _ _ _⟩ | exact ⟨rfl, _, Eq.trans (World.drewN_drewN _ _ _) (congrArg (World.drewN _) (Nat.add_assoc _ _ _))⟩))); try go_wp2_with (first | (go_at_call 50; (with_reducible refine (spec_Mul.calls a0 (rd l1 x8_2) (rd l2 x8_2) t113 _ A15.out).mono ?_); rintro e w' ⟨rfl, ⟨nd, rfl⟩⟩; (try first | exact ⟨rfl, _, World.drewN_drewN _ _ _⟩ | exact ⟨rfl, _, Eq.trans (World.drewN_drewN _ _ _) (congrArg (World.drewN _) (Nat.add_assoc _ _ _))⟩)) | (go_at_call 49; (with_reducible refine (spec_Add.calls a0 x7_2 t113 t114 _ A16.out).mono ?_); rintro e w' ⟨rfl, ⟨nd, rfl⟩⟩; (try first | exact ⟨rfl, _, World.drewN_drewN _ _ _⟩ | exact ⟨rfl, _, Eq.trans (World.drewN_drewN _ _ _) (congrArg (World.drewN _) (Nat.add_assoc _ _ _))⟩))))
                        go_roundg kj8
                        case measure => have := HJ3.out; have := HK2.out; have := HJ8.out; omega
                        case rel => exact ⟨(t114), (wrap64 (x8_2 + 1)), (by first | rfl | (simp; done) | (simp [*]; done)), (by first | rfl | (simp; done) | (simp [*]; done)), H', ⟨by have := HJ3.out; have := HK2.out; have := HJ8.out; omega⟩, by repeat (first | exact Drawn0.refl _ | apply Drawn0.step)⟩
                      · rw [if_neg c14] at H
                        exact absurd H (by simp)
                    · rw [if_neg c13] at H
                      exact absurd H (by simp)
                  · rw [if_neg c12] at H
                    exact absurd H (by simp)
                · replace c11 := Bool.eq_false_iff.mpr c11
                  subst c11
                  have H1 : (some x7_2) = some r := by rw [if_neg (show ¬ (false = true) by decide)] at H; exact H
                  clear H
                  have H := H1
                  clear H1
                  obtain rfl := Option.some.inj H
                  go_wp2
                  repeat (go_quiet (fail); try go_wp2)
                  go_ret
                  exact ⟨by first | rfl | (simp; done) | (simp [*]; done), by repeat (first | exact Drawn0.refl _ | apply Drawn0.step)⟩

/-! ### impl_fieldOf: function 51 -/
def impl_fieldOf.f (a0 : Int) : Option (Int × Int × Int × Bool) := if a0 < 0 then (some (0, 0, 0, false)) else (if a0 ≥ 9 then (some (0, 0, 0, false)) else (if a0 = 0 then (some (17, 3, 4, true)) else (if a0 = 1 then (some (97, 5, 5, true)) else (if a0 = 2 then (some (193, 5, 6, true)) else (if a0 = 3 then (some (257, 3, 8, true)) else (if a0 = 4 then (some (7681, 17, 9, true)) else (if a0 = 5 then (some (12289, 11, 12, true)) else (if a0 = 6 then (some (998244353, 3, 23, true)) else (if a0 = 7 then (some (469762049, 3, 26, true)) else (some (1004535809, 3, 21, true)))))))))))
section
variable {P : Program} {ops : Array Oper} {rest : List Oper} {o : Oper} {a : Act} {Q : Exit → Act → World → Prop}
/-- A whole array is stored into its variable. -/
theorem store_row_event {W : World} (hgd : o.guard = none) (ty : TypeId) (x y : Operand) (ho : o.op = .store ty x y) (g : Nat) (cells : Array Value) (hx : a.eval x = .pointer (some ⟨g, 0, none⟩)) (hy : a.eval y = .agg cells)
    (t : TypeId) (old : Array Value) (hg : W.heap[g]? = some (.cells old t (0, 0))) (hi : (P.info? ty).map (·.size) = some cells.size) (hold : old.size = cells.size) (h1 : cells.all (·.oneCell') = true)
    (h : ∀ w1, w1.heap[g]? = some (.cells cells t (0, 0)) → (∀ k, k ≠ g → w1.heap[k]? = W.heap[k]?) → (∀ w0, Below w0.heap.size w0 W → w0.heap.size ≤ g → Below w0.heap.size w0 w1) → wpList P ops Q rest (a.put o.dst undef) w1) : wpList P ops Q (o :: rest) a W :=
  wpList_store_row hgd ty x y ho g cells hx hy t old hg hi hold h1 (h _ (setRow_heap W g old cells t (0, 0) hg) (fun k hk => setRow_other W g k cells hk)
    (fun w0 hb hg0 => ⟨hb.os, hb.tape, hb.output, by rw [setRow_size]; exact hb.size, fun k hk => (setRow_other W g k cells (by omega)).trans (hb.block k hk)⟩))
end
set_option maxHeartbeats 8000000 in
set_option maxRecDepth 100000 in
theorem impl_fieldOf.low (a0 : Int) (c2 : a0 < 0) (w : World) : Calls Try.prog 51 #[.int .i64 a0] w fun e w' => e = .returned (.tuple #[.agg #[.int .i64 0, .int .i64 0, .int .i64 0], .bool false]) ∧ Below w.heap.size w w' := by
  have c2b0 : decide (a0 < 0) = true := decide_eq_true c2
  clear c2
  have HB := Aside0.mk (Below.refl w.heap.size w)
  go_enter Try.func51, Try.ntmps51
  go_wp2_with (first | ((with_reducible refine gate_dst (N := 2) rfl ?_); refine box_event ?hg (N := 2) ?hd (cs := #[.int .i64 0, .int .i64 0, .int .i64 0]) (t := 44) ?hr ?_; (case hd => rfl); (case hg => rfl); (case hr => first | (go_simp; done) | (go_simp; rfl)); intro gb104 hg w3 hbox hb; have n0_ := Aside0.mk (below_step (by repeat (first | (with_reducible first | exact HB.out | apply below_alloc | apply pw_below_drewN | apply below_drew1) | exact HB.out)) hb); have n1_ := Aside0.mk (hbox); have n3_ := Aside0.mk ((by rw [hg]; exact (below_size (by repeat (first | (with_reducible first | exact HB.out | apply below_alloc | apply pw_below_drewN | apply below_drew1) | exact HB.out))) : w.heap.size ≤ gb104)); clear HB; have HB := n0_; have BK104 := n1_; have GE104 := n3_; clear n0_ n1_ n3_; clear hb hbox hg) | ((with_reducible refine gate_dst (N := 14) rfl ?_); refine wpList_build rfl 55 _ rfl (by kernel_rfl) ?_; rw [show ((Try.prog.built 55 _).getD #[] : Array Value) = #[.int .i64 17, .int .i64 3, .int .i64 4, .int .i64 97, .int .i64 5, .int .i64 5, .int .i64 193, .int .i64 5, .int .i64 6, .int .i64 257, .int .i64 3, .int .i64 8, .int .i64 7681, .int .i64 17, .int .i64 9, .int .i64 12289, .int .i64 11, .int .i64 12, .int .i64 998244353, .int .i64 3, .int .i64 23, .int .i64 469762049, .int .i64 3, .int .i64 26, .int .i64 1004535809, .int .i64 3, .int .i64 21] from by kernel_rfl]) | ((with_reducible refine gate_dst (N := 4) rfl ?_); refine box_event ?hg (N := 4) ?hd (cs := #[.int .i64 0, .int .i64 0, .int .i64 0, .int .i64 0, .int .i64 0, .int .i64 0, .int .i64 0, .int .i64 0, .int .i64 0, .int .i64 0, .int .i64 0, .int .i64 0, .int .i64 0, .int .i64 0, .int .i64 0, .int .i64 0, .int .i64 0, .int .i64 0, .int .i64 0, .int .i64 0, .int .i64 0, .int .i64 0, .int .i64 0, .int .i64 0, .int .i64 0, .int .i64 0, .int .i64 0]) (t := 55) ?hr ?_; (case hd => rfl); (case hg => rfl); (case hr => first | (go_simp; done) | (go_simp; rfl)); intro ga hg wa hbox hb; have n0_ := Aside0.mk (below_step (by repeat (first | (with_reducible first | exact HB.out | apply below_alloc | apply pw_below_drewN | apply below_drew1) | exact HB.out)) hb); have n1_ := Aside0.mk (hbox); have n2_ := Aside0.mk (blk_below BK104.out hb); have n3_ := Aside0.mk ((by rw [hg]; exact (below_size (by repeat (first | (with_reducible first | exact HB.out | apply below_alloc | apply pw_below_drewN | apply below_drew1) | exact HB.out))) : w.heap.size ≤ ga)); have n4_ := Aside0.mk ((by rw [hg]; exact Nat.ne_of_lt (blk_lt BK104.out)) : gb104 ≠ ga); clear HB BK104; have HB := n0_; have BK104 := n2_; have BKA := n1_; have GEA := n3_; have NEA := n4_; clear n0_ n1_ n2_ n3_ n4_; clear hb hbox hg) | ((with_reducible refine gate_store (t := 55) (p := 4) rfl ?_); refine store_row_event rfl 55 _ _ rfl ga #[.int .i64 17, .int .i64 3, .int .i64 4, .int .i64 97, .int .i64 5, .int .i64 5, .int .i64 193, .int .i64 5, .int .i64 6, .int .i64 257, .int .i64 3, .int .i64 8, .int .i64 7681, .int .i64 17, .int .i64 9, .int .i64 12289, .int .i64 11, .int .i64 12, .int .i64 998244353, .int .i64 3, .int .i64 23, .int .i64 469762049, .int .i64 3, .int .i64 26, .int .i64 1004535809, .int .i64 3, .int .i64 21] rfl rfl 55 _ BKA.out (by kernel_rfl) rfl (by kernel_rfl) ?_; intro wb hb1 hb2 hb3; have n1_ := Aside0.mk hb1; have n2_ := Aside0.mk ((hb2 gb104 NEA.out).trans BK104.out); have n0_ := Aside0.mk (hb3 w HB.out GEA.out); clear HB BK104 BKA hb1 hb2 hb3; have HB := n0_; have BK104 := n2_; have BKA := n1_; clear n0_ n1_ n2_; skip; have hczb_0 : wb.cell? ⟨gb104, 0, none⟩ = some (.int .i64 0) := (blk_cell BK104.out 0).trans rfl; have hfzb_0 := blk_frozen BK104.out 0; have hczb_1 : wb.cell? ⟨gb104, 1, none⟩ = some (.int .i64 0) := (blk_cell BK104.out 1).trans rfl; have hfzb_1 := blk_frozen BK104.out 1; have hczb_2 : wb.cell? ⟨gb104, 2, none⟩ = some (.int .i64 0) := (blk_cell BK104.out 2).trans rfl; have hfzb_2 := blk_frozen BK104.out 2))
  refine bodyPost_ret (results_ct rfl _ _ gb104 44 #[.int .i64 0, .int .i64 0, .int .i64 0] (0, 0) _ rfl (by (with_reducible repeat (first | refine blk_drewN ?_ _ | refine blk_drew ?_ | refine blk_alloc ?_ _)); refine blk_put (cs := #[.int .i64 0, .int .i64 0, .int .i64 0]) ?_ 2 _ rfl; (with_reducible repeat (first | refine blk_drewN ?_ _ | refine blk_drew ?_ | refine blk_alloc ?_ _)); refine blk_put (cs := #[.int .i64 0, .int .i64 0, .int .i64 0]) ?_ 1 _ rfl; (with_reducible repeat (first | refine blk_drewN ?_ _ | refine blk_drew ?_ | refine blk_alloc ?_ _)); refine blk_put (cs := #[.int .i64 0, .int .i64 0, .int .i64 0]) ?_ 0 _ rfl; (with_reducible repeat (first | refine blk_drewN ?_ _ | refine blk_drew ?_ | refine blk_alloc ?_ _)); exact BK104.out) Try.underlying44 rfl (by kernel_rfl)) rfl ?_
  exact ⟨by first | rfl | (simp [errW_none, errW_some] <;> rfl) | (simp [*, errW_none, errW_some] <;> rfl), by repeat (first | (with_reducible first | exact HB.out | apply below_alloc | apply pw_below_drewN | apply below_drew1 | refine below_set ?_ GE104.out) | exact HB.out)⟩
set_option maxHeartbeats 8000000 in
set_option maxRecDepth 100000 in
theorem impl_fieldOf.high (a0 : Int) (c2 : ¬ a0 < 0) (c5 : a0 ≥ 9) (w : World) : Calls Try.prog 51 #[.int .i64 a0] w fun e w' => e = .returned (.tuple #[.agg #[.int .i64 0, .int .i64 0, .int .i64 0], .bool false]) ∧ Below w.heap.size w w' := by
  have c2b0 : decide (a0 < 0) = false := decide_eq_false c2
  have c5b0 : decide (9 ≤ a0) = true := decide_eq_true c5
  clear c2 c5
  have HB := Aside0.mk (Below.refl w.heap.size w)
  go_enter Try.func51, Try.ntmps51
  go_wp2_with (first | ((with_reducible refine gate_dst (N := 2) rfl ?_); refine box_event ?hg (N := 2) ?hd (cs := #[.int .i64 0, .int .i64 0, .int .i64 0]) (t := 44) ?hr ?_; (case hd => rfl); (case hg => rfl); (case hr => first | (go_simp; done) | (go_simp; rfl)); intro gb104 hg w3 hbox hb; have n0_ := Aside0.mk (below_step (by repeat (first | (with_reducible first | exact HB.out | apply below_alloc | apply pw_below_drewN | apply below_drew1) | exact HB.out)) hb); have n1_ := Aside0.mk (hbox); have n3_ := Aside0.mk ((by rw [hg]; exact (below_size (by repeat (first | (with_reducible first | exact HB.out | apply below_alloc | apply pw_below_drewN | apply below_drew1) | exact HB.out))) : w.heap.size ≤ gb104)); clear HB; have HB := n0_; have BK104 := n1_; have GE104 := n3_; clear n0_ n1_ n3_; clear hb hbox hg) | ((with_reducible refine gate_dst (N := 14) rfl ?_); refine wpList_build rfl 55 _ rfl (by kernel_rfl) ?_; rw [show ((Try.prog.built 55 _).getD #[] : Array Value) = #[.int .i64 17, .int .i64 3, .int .i64 4, .int .i64 97, .int .i64 5, .int .i64 5, .int .i64 193, .int .i64 5, .int .i64 6, .int .i64 257, .int .i64 3, .int .i64 8, .int .i64 7681, .int .i64 17, .int .i64 9, .int .i64 12289, .int .i64 11, .int .i64 12, .int .i64 998244353, .int .i64 3, .int .i64 23, .int .i64 469762049, .int .i64 3, .int .i64 26, .int .i64 1004535809, .int .i64 3, .int .i64 21] from by kernel_rfl]) | ((with_reducible refine gate_dst (N := 4) rfl ?_); refine box_event ?hg (N := 4) ?hd (cs := #[.int .i64 0, .int .i64 0, .int .i64 0, .int .i64 0, .int .i64 0, .int .i64 0, .int .i64 0, .int .i64 0, .int .i64 0, .int .i64 0, .int .i64 0, .int .i64 0, .int .i64 0, .int .i64 0, .int .i64 0, .int .i64 0, .int .i64 0, .int .i64 0, .int .i64 0, .int .i64 0, .int .i64 0, .int .i64 0, .int .i64 0, .int .i64 0, .int .i64 0, .int .i64 0, .int .i64 0]) (t := 55) ?hr ?_; (case hd => rfl); (case hg => rfl); (case hr => first | (go_simp; done) | (go_simp; rfl)); intro ga hg wa hbox hb; have n0_ := Aside0.mk (below_step (by repeat (first | (with_reducible first | exact HB.out | apply below_alloc | apply pw_below_drewN | apply below_drew1) | exact HB.out)) hb); have n1_ := Aside0.mk (hbox); have n2_ := Aside0.mk (blk_below BK104.out hb); have n3_ := Aside0.mk ((by rw [hg]; exact (below_size (by repeat (first | (with_reducible first | exact HB.out | apply below_alloc | apply pw_below_drewN | apply below_drew1) | exact HB.out))) : w.heap.size ≤ ga)); have n4_ := Aside0.mk ((by rw [hg]; exact Nat.ne_of_lt (blk_lt BK104.out)) : gb104 ≠ ga); clear HB BK104; have HB := n0_; have BK104 := n2_; have BKA := n1_; have GEA := n3_; have NEA := n4_; clear n0_ n1_ n2_ n3_ n4_; clear hb hbox hg) | ((with_reducible refine gate_store (t := 55) (p := 4) rfl ?_); refine store_row_event rfl 55 _ _ rfl ga #[.int .i64 17, .int .i64 3, .int .i64 4, .int .i64 97, .int .i64 5, .int .i64 5, .int .i64 193, .int .i64 5, .int .i64 6, .int .i64 257, .int .i64 3, .int .i64 8, .int .i64 7681, .int .i64 17, .int .i64 9, .int .i64 12289, .int .i64 11, .int .i64 12, .int .i64 998244353, .int .i64 3, .int .i64 23, .int .i64 469762049, .int .i64 3, .int .i64 26, .int .i64 1004535809, .int .i64 3, .int .i64 21] rfl rfl 55 _ BKA.out (by kernel_rfl) rfl (by kernel_rfl) ?_; intro wb hb1 hb2 hb3; have n1_ := Aside0.mk hb1; have n2_ := Aside0.mk ((hb2 gb104 NEA.out).trans BK104.out); have n0_ := Aside0.mk (hb3 w HB.out GEA.out); clear HB BK104 BKA hb1 hb2 hb3; have HB := n0_; have BK104 := n2_; have BKA := n1_; clear n0_ n1_ n2_; skip; have hczb_0 : wb.cell? ⟨gb104, 0, none⟩ = some (.int .i64 0) := (blk_cell BK104.out 0).trans rfl; have hfzb_0 := blk_frozen BK104.out 0; have hczb_1 : wb.cell? ⟨gb104, 1, none⟩ = some (.int .i64 0) := (blk_cell BK104.out 1).trans rfl; have hfzb_1 := blk_frozen BK104.out 1; have hczb_2 : wb.cell? ⟨gb104, 2, none⟩ = some (.int .i64 0) := (blk_cell BK104.out 2).trans rfl; have hfzb_2 := blk_frozen BK104.out 2))
  refine bodyPost_ret (results_ct rfl _ _ gb104 44 #[.int .i64 0, .int .i64 0, .int .i64 0] (0, 0) _ rfl (by (with_reducible repeat (first | refine blk_drewN ?_ _ | refine blk_drew ?_ | refine blk_alloc ?_ _)); refine blk_put (cs := #[.int .i64 0, .int .i64 0, .int .i64 0]) ?_ 2 _ rfl; (with_reducible repeat (first | refine blk_drewN ?_ _ | refine blk_drew ?_ | refine blk_alloc ?_ _)); refine blk_put (cs := #[.int .i64 0, .int .i64 0, .int .i64 0]) ?_ 1 _ rfl; (with_reducible repeat (first | refine blk_drewN ?_ _ | refine blk_drew ?_ | refine blk_alloc ?_ _)); refine blk_put (cs := #[.int .i64 0, .int .i64 0, .int .i64 0]) ?_ 0 _ rfl; (with_reducible repeat (first | refine blk_drewN ?_ _ | refine blk_drew ?_ | refine blk_alloc ?_ _)); exact BK104.out) Try.underlying44 rfl (by kernel_rfl)) rfl ?_
  exact ⟨by first | rfl | (simp [errW_none, errW_some] <;> rfl) | (simp [*, errW_none, errW_some] <;> rfl), by repeat (first | (with_reducible first | exact HB.out | apply below_alloc | apply pw_below_drewN | apply below_drew1 | refine below_set ?_ GE104.out) | exact HB.out)⟩
set_option maxHeartbeats 8000000 in
set_option maxRecDepth 100000 in
theorem impl_fieldOf.at0 (w : World) : Calls Try.prog 51 #[.int .i64 0] w fun e w' => e = .returned (.tuple #[.agg #[.int .i64 17, .int .i64 3, .int .i64 4], .bool true]) ∧ Below w.heap.size w w' := by
  have HB := Aside0.mk (Below.refl w.heap.size w)
  go_enter Try.func51, Try.ntmps51
  go_wp2_with (first | ((with_reducible refine gate_dst (N := 2) rfl ?_); refine box_event ?hg (N := 2) ?hd (cs := #[.int .i64 0, .int .i64 0, .int .i64 0]) (t := 44) ?hr ?_; (case hd => rfl); (case hg => rfl); (case hr => first | (go_simp; done) | (go_simp; rfl)); intro gb104 hg w3 hbox hb; have n0_ := Aside0.mk (below_step (by repeat (first | (with_reducible first | exact HB.out | apply below_alloc | apply pw_below_drewN | apply below_drew1) | exact HB.out)) hb); have n1_ := Aside0.mk (hbox); have n3_ := Aside0.mk ((by rw [hg]; exact (below_size (by repeat (first | (with_reducible first | exact HB.out | apply below_alloc | apply pw_below_drewN | apply below_drew1) | exact HB.out))) : w.heap.size ≤ gb104)); clear HB; have HB := n0_; have BK104 := n1_; have GE104 := n3_; clear n0_ n1_ n3_; clear hb hbox hg) | ((with_reducible refine gate_dst (N := 14) rfl ?_); refine wpList_build rfl 55 _ rfl (by kernel_rfl) ?_; rw [show ((Try.prog.built 55 _).getD #[] : Array Value) = #[.int .i64 17, .int .i64 3, .int .i64 4, .int .i64 97, .int .i64 5, .int .i64 5, .int .i64 193, .int .i64 5, .int .i64 6, .int .i64 257, .int .i64 3, .int .i64 8, .int .i64 7681, .int .i64 17, .int .i64 9, .int .i64 12289, .int .i64 11, .int .i64 12, .int .i64 998244353, .int .i64 3, .int .i64 23, .int .i64 469762049, .int .i64 3, .int .i64 26, .int .i64 1004535809, .int .i64 3, .int .i64 21] from by kernel_rfl]) | ((with_reducible refine gate_dst (N := 4) rfl ?_); refine box_event ?hg (N := 4) ?hd (cs := #[.int .i64 0, .int .i64 0, .int .i64 0, .int .i64 0, .int .i64 0, .int .i64 0, .int .i64 0, .int .i64 0, .int .i64 0, .int .i64 0, .int .i64 0, .int .i64 0, .int .i64 0, .int .i64 0, .int .i64 0, .int .i64 0, .int .i64 0, .int .i64 0, .int .i64 0, .int .i64 0, .int .i64 0, .int .i64 0, .int .i64 0, .int .i64 0, .int .i64 0, .int .i64 0, .int .i64 0]) (t := 55) ?hr ?_; (case hd => rfl); (case hg => rfl); (case hr => first | (go_simp; done) | (go_simp; rfl)); intro ga hg wa hbox hb; have n0_ := Aside0.mk (below_step (by repeat (first | (with_reducible first | exact HB.out | apply below_alloc | apply pw_below_drewN | apply below_drew1) | exact HB.out)) hb); have n1_ := Aside0.mk (hbox); have n2_ := Aside0.mk (blk_below BK104.out hb); have n3_ := Aside0.mk ((by rw [hg]; exact (below_size (by repeat (first | (with_reducible first | exact HB.out | apply below_alloc | apply pw_below_drewN | apply below_drew1) | exact HB.out))) : w.heap.size ≤ ga)); have n4_ := Aside0.mk ((by rw [hg]; exact Nat.ne_of_lt (blk_lt BK104.out)) : gb104 ≠ ga); clear HB BK104; have HB := n0_; have BK104 := n2_; have BKA := n1_; have GEA := n3_; have NEA := n4_; clear n0_ n1_ n2_ n3_ n4_; clear hb hbox hg) | ((with_reducible refine gate_store (t := 55) (p := 4) rfl ?_); refine store_row_event rfl 55 _ _ rfl ga #[.int .i64 17, .int .i64 3, .int .i64 4, .int .i64 97, .int .i64 5, .int .i64 5, .int .i64 193, .int .i64 5, .int .i64 6, .int .i64 257, .int .i64 3, .int .i64 8, .int .i64 7681, .int .i64 17, .int .i64 9, .int .i64 12289, .int .i64 11, .int .i64 12, .int .i64 998244353, .int .i64 3, .int .i64 23, .int .i64 469762049, .int .i64 3, .int .i64 26, .int .i64 1004535809, .int .i64 3, .int .i64 21] rfl rfl 55 _ BKA.out (by kernel_rfl) rfl (by kernel_rfl) ?_; intro wb hb1 hb2 hb3; have n1_ := Aside0.mk hb1; have n2_ := Aside0.mk ((hb2 gb104 NEA.out).trans BK104.out); have n0_ := Aside0.mk (hb3 w HB.out GEA.out); clear HB BK104 BKA hb1 hb2 hb3; have HB := n0_; have BK104 := n2_; have BKA := n1_; clear n0_ n1_ n2_; have hcz_0 : wb.cell? ⟨ga, 0, none⟩ = some (.int .i64 17) := (blk_cell BKA.out 0).trans rfl; have hcz_1 : wb.cell? ⟨ga, 1, none⟩ = some (.int .i64 3) := (blk_cell BKA.out 1).trans rfl; have hcz_2 : wb.cell? ⟨ga, 2, none⟩ = some (.int .i64 4) := (blk_cell BKA.out 2).trans rfl; have hczb_0 : wb.cell? ⟨gb104, 0, none⟩ = some (.int .i64 0) := (blk_cell BK104.out 0).trans rfl; have hfzb_0 := blk_frozen BK104.out 0; have hczb_1 : wb.cell? ⟨gb104, 1, none⟩ = some (.int .i64 0) := (blk_cell BK104.out 1).trans rfl; have hfzb_1 := blk_frozen BK104.out 1; have hczb_2 : wb.cell? ⟨gb104, 2, none⟩ = some (.int .i64 0) := (blk_cell BK104.out 2).trans rfl; have hfzb_2 := blk_frozen BK104.out 2))
  refine bodyPost_ret (results_ct rfl _ _ gb104 44 #[.int .i64 17, .int .i64 3, .int .i64 4] (0, 0) _ rfl (by (with_reducible repeat (first | refine blk_drewN ?_ _ | refine blk_drew ?_ | refine blk_alloc ?_ _)); refine blk_put (cs := #[.int .i64 17, .int .i64 3, .int .i64 0]) ?_ 2 _ rfl; (with_reducible repeat (first | refine blk_drewN ?_ _ | refine blk_drew ?_ | refine blk_alloc ?_ _)); refine blk_put (cs := #[.int .i64 17, .int .i64 0, .int .i64 0]) ?_ 1 _ rfl; (with_reducible repeat (first | refine blk_drewN ?_ _ | refine blk_drew ?_ | refine blk_alloc ?_ _)); refine blk_put (cs := #[.int .i64 0, .int .i64 0, .int .i64 0]) ?_ 0 _ rfl; (with_reducible repeat (first | refine blk_drewN ?_ _ | refine blk_drew ?_ | refine blk_alloc ?_ _)); exact BK104.out) Try.underlying44 rfl (by kernel_rfl)) rfl ?_
  exact ⟨by first | rfl | (simp [errW_none, errW_some] <;> rfl) | (simp [*, errW_none, errW_some] <;> rfl), by repeat (first | (with_reducible first | exact HB.out | apply below_alloc | apply pw_below_drewN | apply below_drew1 | refine below_set ?_ GE104.out) | exact HB.out)⟩
set_option maxHeartbeats 8000000 in
set_option maxRecDepth 100000 in
theorem impl_fieldOf.at1 (w : World) : Calls Try.prog 51 #[.int .i64 1] w fun e w' => e = .returned (.tuple #[.agg #[.int .i64 97, .int .i64 5, .int .i64 5], .bool true]) ∧ Below w.heap.size w w' := by
  have HB := Aside0.mk (Below.refl w.heap.size w)
  go_enter Try.func51, Try.ntmps51
  go_wp2_with (first | ((with_reducible refine gate_dst (N := 2) rfl ?_); refine box_event ?hg (N := 2) ?hd (cs := #[.int .i64 0, .int .i64 0, .int .i64 0]) (t := 44) ?hr ?_; (case hd => rfl); (case hg => rfl); (case hr => first | (go_simp; done) | (go_simp; rfl)); intro gb104 hg w3 hbox hb; have n0_ := Aside0.mk (below_step (by repeat (first | (with_reducible first | exact HB.out | apply below_alloc | apply pw_below_drewN | apply below_drew1) | exact HB.out)) hb); have n1_ := Aside0.mk (hbox); have n3_ := Aside0.mk ((by rw [hg]; exact (below_size (by repeat (first | (with_reducible first | exact HB.out | apply below_alloc | apply pw_below_drewN | apply below_drew1) | exact HB.out))) : w.heap.size ≤ gb104)); clear HB; have HB := n0_; have BK104 := n1_; have GE104 := n3_; clear n0_ n1_ n3_; clear hb hbox hg) | ((with_reducible refine gate_dst (N := 14) rfl ?_); refine wpList_build rfl 55 _ rfl (by kernel_rfl) ?_; rw [show ((Try.prog.built 55 _).getD #[] : Array Value) = #[.int .i64 17, .int .i64 3, .int .i64 4, .int .i64 97, .int .i64 5, .int .i64 5, .int .i64 193, .int .i64 5, .int .i64 6, .int .i64 257, .int .i64 3, .int .i64 8, .int .i64 7681, .int .i64 17, .int .i64 9, .int .i64 12289, .int .i64 11, .int .i64 12, .int .i64 998244353, .int .i64 3, .int .i64 23, .int .i64 469762049, .int .i64 3, .int .i64 26, .int .i64 1004535809, .int .i64 3, .int .i64 21] from by kernel_rfl]) | ((with_reducible refine gate_dst (N := 4) rfl ?_); refine box_event ?hg (N := 4) ?hd (cs := #[.int .i64 0, .int .i64 0, .int .i64 0, .int .i64 0, .int .i64 0, .int .i64 0, .int .i64 0, .int .i64 0, .int .i64 0, .int .i64 0, .int .i64 0, .int .i64 0, .int .i64 0, .int .i64 0, .int .i64 0, .int .i64 0, .int .i64 0, .int .i64 0, .int .i64 0, .int .i64 0, .int .i64 0, .int .i64 0, .int .i64 0, .int .i64 0, .int .i64 0, .int .i64 0, .int .i64 0]) (t := 55) ?hr ?_; (case hd => rfl); (case hg => rfl); (case hr => first | (go_simp; done) | (go_simp; rfl)); intro ga hg wa hbox hb; have n0_ := Aside0.mk (below_step (by repeat (first | (with_reducible first | exact HB.out | apply below_alloc | apply pw_below_drewN | apply below_drew1) | exact HB.out)) hb); have n1_ := Aside0.mk (hbox); have n2_ := Aside0.mk (blk_below BK104.out hb); have n3_ := Aside0.mk ((by rw [hg]; exact (below_size (by repeat (first | (with_reducible first | exact HB.out | apply below_alloc | apply pw_below_drewN | apply below_drew1) | exact HB.out))) : w.heap.size ≤ ga)); have n4_ := Aside0.mk ((by rw [hg]; exact Nat.ne_of_lt (blk_lt BK104.out)) : gb104 ≠ ga); clear HB BK104; have HB := n0_; have BK104 := n2_; have BKA := n1_; have GEA := n3_; have NEA := n4_; clear n0_ n1_ n2_ n3_ n4_; clear hb hbox hg) | ((with_reducible refine gate_store (t := 55) (p := 4) rfl ?_); refine store_row_event rfl 55 _ _ rfl ga #[.int .i64 17, .int .i64 3, .int .i64 4, .int .i64 97, .int .i64 5, .int .i64 5, .int .i64 193, .int .i64 5, .int .i64 6, .int .i64 257, .int .i64 3, .int .i64 8, .int .i64 7681, .int .i64 17, .int .i64 9, .int .i64 12289, .int .i64 11, .int .i64 12, .int .i64 998244353, .int .i64 3, .int .i64 23, .int .i64 469762049, .int .i64 3, .int .i64 26, .int .i64 1004535809, .int .i64 3, .int .i64 21] rfl rfl 55 _ BKA.out (by kernel_rfl) rfl (by kernel_rfl) ?_; intro wb hb1 hb2 hb3; have n1_ := Aside0.mk hb1; have n2_ := Aside0.mk ((hb2 gb104 NEA.out).trans BK104.out); have n0_ := Aside0.mk (hb3 w HB.out GEA.out); clear HB BK104 BKA hb1 hb2 hb3; have HB := n0_; have BK104 := n2_; have BKA := n1_; clear n0_ n1_ n2_; have hcz_0 : wb.cell? ⟨ga, 3, none⟩ = some (.int .i64 97) := (blk_cell BKA.out 3).trans rfl; have hcz_1 : wb.cell? ⟨ga, 4, none⟩ = some (.int .i64 5) := (blk_cell BKA.out 4).trans rfl; have hcz_2 : wb.cell? ⟨ga, 5, none⟩ = some (.int .i64 5) := (blk_cell BKA.out 5).trans rfl; have hczb_0 : wb.cell? ⟨gb104, 0, none⟩ = some (.int .i64 0) := (blk_cell BK104.out 0).trans rfl; have hfzb_0 := blk_frozen BK104.out 0; have hczb_1 : wb.cell? ⟨gb104, 1, none⟩ = some (.int .i64 0) := (blk_cell BK104.out 1).trans rfl; have hfzb_1 := blk_frozen BK104.out 1; have hczb_2 : wb.cell? ⟨gb104, 2, none⟩ = some (.int .i64 0) := (blk_cell BK104.out 2).trans rfl; have hfzb_2 := blk_frozen BK104.out 2))
  refine bodyPost_ret (results_ct rfl _ _ gb104 44 #[.int .i64 97, .int .i64 5, .int .i64 5] (0, 0) _ rfl (by (with_reducible repeat (first | refine blk_drewN ?_ _ | refine blk_drew ?_ | refine blk_alloc ?_ _)); refine blk_put (cs := #[.int .i64 97, .int .i64 5, .int .i64 0]) ?_ 2 _ rfl; (with_reducible repeat (first | refine blk_drewN ?_ _ | refine blk_drew ?_ | refine blk_alloc ?_ _)); refine blk_put (cs := #[.int .i64 97, .int .i64 0, .int .i64 0]) ?_ 1 _ rfl; (with_reducible repeat (first | refine blk_drewN ?_ _ | refine blk_drew ?_ | refine blk_alloc ?_ _)); refine blk_put (cs := #[.int .i64 0, .int .i64 0, .int .i64 0]) ?_ 0 _ rfl; (with_reducible repeat (first | refine blk_drewN ?_ _ | refine blk_drew ?_ | refine blk_alloc ?_ _)); exact BK104.out) Try.underlying44 rfl (by kernel_rfl)) rfl ?_
  exact ⟨by first | rfl | (simp [errW_none, errW_some] <;> rfl) | (simp [*, errW_none, errW_some] <;> rfl), by repeat (first | (with_reducible first | exact HB.out | apply below_alloc | apply pw_below_drewN | apply below_drew1 | refine below_set ?_ GE104.out) | exact HB.out)⟩
set_option maxHeartbeats 8000000 in
set_option maxRecDepth 100000 in
theorem impl_fieldOf.at2 (w : World) : Calls Try.prog 51 #[.int .i64 2] w fun e w' => e = .returned (.tuple #[.agg #[.int .i64 193, .int .i64 5, .int .i64 6], .bool true]) ∧ Below w.heap.size w w' := by
  have HB := Aside0.mk (Below.refl w.heap.size w)
  go_enter Try.func51, Try.ntmps51
  go_wp2_with (first | ((with_reducible refine gate_dst (N := 2) rfl ?_); refine box_event ?hg (N := 2) ?hd (cs := #[.int .i64 0, .int .i64 0, .int .i64 0]) (t := 44) ?hr ?_; (case hd => rfl); (case hg => rfl); (case hr => first | (go_simp; done) | (go_simp; rfl)); intro gb104 hg w3 hbox hb; have n0_ := Aside0.mk (below_step (by repeat (first | (with_reducible first | exact HB.out | apply below_alloc | apply pw_below_drewN | apply below_drew1) | exact HB.out)) hb); have n1_ := Aside0.mk (hbox); have n3_ := Aside0.mk ((by rw [hg]; exact (below_size (by repeat (first | (with_reducible first | exact HB.out | apply below_alloc | apply pw_below_drewN | apply below_drew1) | exact HB.out))) : w.heap.size ≤ gb104)); clear HB; have HB := n0_; have BK104 := n1_; have GE104 := n3_; clear n0_ n1_ n3_; clear hb hbox hg) | ((with_reducible refine gate_dst (N := 14) rfl ?_); refine wpList_build rfl 55 _ rfl (by kernel_rfl) ?_; rw [show ((Try.prog.built 55 _).getD #[] : Array Value) = #[.int .i64 17, .int .i64 3, .int .i64 4, .int .i64 97, .int .i64 5, .int .i64 5, .int .i64 193, .int .i64 5, .int .i64 6, .int .i64 257, .int .i64 3, .int .i64 8, .int .i64 7681, .int .i64 17, .int .i64 9, .int .i64 12289, .int .i64 11, .int .i64 12, .int .i64 998244353, .int .i64 3, .int .i64 23, .int .i64 469762049, .int .i64 3, .int .i64 26, .int .i64 1004535809, .int .i64 3, .int .i64 21] from by kernel_rfl]) | ((with_reducible refine gate_dst (N := 4) rfl ?_); refine box_event ?hg (N := 4) ?hd (cs := #[.int .i64 0, .int .i64 0, .int .i64 0, .int .i64 0, .int .i64 0, .int .i64 0, .int .i64 0, .int .i64 0, .int .i64 0, .int .i64 0, .int .i64 0, .int .i64 0, .int .i64 0, .int .i64 0, .int .i64 0, .int .i64 0, .int .i64 0, .int .i64 0, .int .i64 0, .int .i64 0, .int .i64 0, .int .i64 0, .int .i64 0, .int .i64 0, .int .i64 0, .int .i64 0, .int .i64 0]) (t := 55) ?hr ?_; (case hd => rfl); (case hg => rfl); (case hr => first | (go_simp; done) | (go_simp; rfl)); intro ga hg wa hbox hb; have n0_ := Aside0.mk (below_step (by repeat (first | (with_reducible first | exact HB.out | apply below_alloc | apply pw_below_drewN | apply below_drew1) | exact HB.out)) hb); have n1_ := Aside0.mk (hbox); have n2_ := Aside0.mk (blk_below BK104.out hb); have n3_ := Aside0.mk ((by rw [hg]; exact (below_size (by repeat (first | (with_reducible first | exact HB.out | apply below_alloc | apply pw_below_drewN | apply below_drew1) | exact HB.out))) : w.heap.size ≤ ga)); have n4_ := Aside0.mk ((by rw [hg]; exact Nat.ne_of_lt (blk_lt BK104.out)) : gb104 ≠ ga); clear HB BK104; have HB := n0_; have BK104 := n2_; have BKA := n1_; have GEA := n3_; have NEA := n4_; clear n0_ n1_ n2_ n3_ n4_; clear hb hbox hg) | ((with_reducible refine gate_store (t := 55) (p := 4) rfl ?_); refine store_row_event rfl 55 _ _ rfl ga #[.int .i64 17, .int .i64 3, .int .i64 4, .int .i64 97, .int .i64 5, .int .i64 5, .int .i64 193, .int .i64 5, .int .i64 6, .int .i64 257, .int .i64 3, .int .i64 8, .int .i64 7681, .int .i64 17, .int .i64 9, .int .i64 12289, .int .i64 11, .int .i64 12, .int .i64 998244353, .int .i64 3, .int .i64 23, .int .i64 469762049, .int .i64 3, .int .i64 26, .int .i64 1004535809, .int .i64 3, .int .i64 21] rfl rfl 55 _ BKA.out (by kernel_rfl) rfl (by kernel_rfl) ?_; intro wb hb1 hb2 hb3; have n1_ := Aside0.mk hb1; have n2_ := Aside0.mk ((hb2 gb104 NEA.out).trans BK104.out); have n0_ := Aside0.mk (hb3 w HB.out GEA.out); clear HB BK104 BKA hb1 hb2 hb3; have HB := n0_; have BK104 := n2_; have BKA := n1_; clear n0_ n1_ n2_; have hcz_0 : wb.cell? ⟨ga, 6, none⟩ = some (.int .i64 193) := (blk_cell BKA.out 6).trans rfl; have hcz_1 : wb.cell? ⟨ga, 7, none⟩ = some (.int .i64 5) := (blk_cell BKA.out 7).trans rfl; have hcz_2 : wb.cell? ⟨ga, 8, none⟩ = some (.int .i64 6) := (blk_cell BKA.out 8).trans rfl; have hczb_0 : wb.cell? ⟨gb104, 0, none⟩ = some (.int .i64 0) := (blk_cell BK104.out 0).trans rfl; have hfzb_0 := blk_frozen BK104.out 0; have hczb_1 : wb.cell? ⟨gb104, 1, none⟩ = some (.int .i64 0) := (blk_cell BK104.out 1).trans rfl; have hfzb_1 := blk_frozen BK104.out 1; have hczb_2 : wb.cell? ⟨gb104, 2, none⟩ = some (.int .i64 0) := (blk_cell BK104.out 2).trans rfl; have hfzb_2 := blk_frozen BK104.out 2))
  refine bodyPost_ret (results_ct rfl _ _ gb104 44 #[.int .i64 193, .int .i64 5, .int .i64 6] (0, 0) _ rfl (by (with_reducible repeat (first | refine blk_drewN ?_ _ | refine blk_drew ?_ | refine blk_alloc ?_ _)); refine blk_put (cs := #[.int .i64 193, .int .i64 5, .int .i64 0]) ?_ 2 _ rfl; (with_reducible repeat (first | refine blk_drewN ?_ _ | refine blk_drew ?_ | refine blk_alloc ?_ _)); refine blk_put (cs := #[.int .i64 193, .int .i64 0, .int .i64 0]) ?_ 1 _ rfl; (with_reducible repeat (first | refine blk_drewN ?_ _ | refine blk_drew ?_ | refine blk_alloc ?_ _)); refine blk_put (cs := #[.int .i64 0, .int .i64 0, .int .i64 0]) ?_ 0 _ rfl; (with_reducible repeat (first | refine blk_drewN ?_ _ | refine blk_drew ?_ | refine blk_alloc ?_ _)); exact BK104.out) Try.underlying44 rfl (by kernel_rfl)) rfl ?_
  exact ⟨by first | rfl | (simp [errW_none, errW_some] <;> rfl) | (simp [*, errW_none, errW_some] <;> rfl), by repeat (first | (with_reducible first | exact HB.out | apply below_alloc | apply pw_below_drewN | apply below_drew1 | refine below_set ?_ GE104.out) | exact HB.out)⟩
set_option maxHeartbeats 8000000 in
set_option maxRecDepth 100000 in
theorem impl_fieldOf.at3 (w : World) : Calls Try.prog 51 #[.int .i64 3] w fun e w' => e = .returned (.tuple #[.agg #[.int .i64 257, .int .i64 3, .int .i64 8], .bool true]) ∧ Below w.heap.size w w' := by
  have HB := Aside0.mk (Below.refl w.heap.size w)
  go_enter Try.func51, Try.ntmps51
  go_wp2_with (first | ((with_reducible refine gate_dst (N := 2) rfl ?_); refine box_event ?hg (N := 2) ?hd (cs := #[.int .i64 0, .int .i64 0, .int .i64 0]) (t := 44) ?hr ?_; (case hd => rfl); (case hg => rfl); (case hr => first | (go_simp; done) | (go_simp; rfl)); intro gb104 hg w3 hbox hb; have n0_ := Aside0.mk (below_step (by repeat (first | (with_reducible first | exact HB.out | apply below_alloc | apply pw_below_drewN | apply below_drew1) | exact HB.out)) hb); have n1_ := Aside0.mk (hbox); have n3_ := Aside0.mk ((by rw [hg]; exact (below_size (by repeat (first | (with_reducible first | exact HB.out | apply below_alloc | apply pw_below_drewN | apply below_drew1) | exact HB.out))) : w.heap.size ≤ gb104)); clear HB; have HB := n0_; have BK104 := n1_; have GE104 := n3_; clear n0_ n1_ n3_; clear hb hbox hg) | ((with_reducible refine gate_dst (N := 14) rfl ?_); refine wpList_build rfl 55 _ rfl (by kernel_rfl) ?_; rw [show ((Try.prog.built 55 _).getD #[] : Array Value) = #[.int .i64 17, .int .i64 3, .int .i64 4, .int .i64 97, .int .i64 5, .int .i64 5, .int .i64 193, .int .i64 5, .int .i64 6, .int .i64 257, .int .i64 3, .int .i64 8, .int .i64 7681, .int .i64 17, .int .i64 9, .int .i64 12289, .int .i64 11, .int .i64 12, .int .i64 998244353, .int .i64 3, .int .i64 23, .int .i64 469762049, .int .i64 3, .int .i64 26, .int .i64 1004535809, .int .i64 3, .int .i64 21] from by kernel_rfl]) | ((with_reducible refine gate_dst (N := 4) rfl ?_); refine box_event ?hg (N := 4) ?hd (cs := #[.int .i64 0, .int .i64 0, .int .i64 0, .int .i64 0, .int .i64 0, .int .i64 0, .int .i64 0, .int .i64 0, .int .i64 0, .int .i64 0, .int .i64 0, .int .i64 0, .int .i64 0, .int .i64 0, .int .i64 0, .int .i64 0, .int .i64 0, .int .i64 0, .int .i64 0, .int .i64 0, .int .i64 0, .int .i64 0, .int .i64 0, .int .i64 0, .int .i64 0, .int .i64 0, .int .i64 0]) (t := 55) ?hr ?_; (case hd => rfl); (case hg => rfl); (case hr => first | (go_simp; done) | (go_simp; rfl)); intro ga hg wa hbox hb; have n0_ := Aside0.mk (below_step (by repeat (first | (with_reducible first | exact HB.out | apply below_alloc | apply pw_below_drewN | apply below_drew1) | exact HB.out)) hb); have n1_ := Aside0.mk (hbox); have n2_ := Aside0.mk (blk_below BK104.out hb); have n3_ := Aside0.mk ((by rw [hg]; exact (below_size (by repeat (first | (with_reducible first | exact HB.out | apply below_alloc | apply pw_below_drewN | apply below_drew1) | exact HB.out))) : w.heap.size ≤ ga)); have n4_ := Aside0.mk ((by rw [hg]; exact Nat.ne_of_lt (blk_lt BK104.out)) : gb104 ≠ ga); clear HB BK104; have HB := n0_; have BK104 := n2_; have BKA := n1_; have GEA := n3_; have NEA := n4_; clear n0_ n1_ n2_ n3_ n4_; clear hb hbox hg) | ((with_reducible refine gate_store (t := 55) (p := 4) rfl ?_); refine store_row_event rfl 55 _ _ rfl ga #[.int .i64 17, .int .i64 3, .int .i64 4, .int .i64 97, .int .i64 5, .int .i64 5, .int .i64 193, .int .i64 5, .int .i64 6, .int .i64 257, .int .i64 3, .int .i64 8, .int .i64 7681, .int .i64 17, .int .i64 9, .int .i64 12289, .int .i64 11, .int .i64 12, .int .i64 998244353, .int .i64 3, .int .i64 23, .int .i64 469762049, .int .i64 3, .int .i64 26, .int .i64 1004535809, .int .i64 3, .int .i64 21] rfl rfl 55 _ BKA.out (by kernel_rfl) rfl (by kernel_rfl) ?_; intro wb hb1 hb2 hb3; have n1_ := Aside0.mk hb1; have n2_ := Aside0.mk ((hb2 gb104 NEA.out).trans BK104.out); have n0_ := Aside0.mk (hb3 w HB.out GEA.out); clear HB BK104 BKA hb1 hb2 hb3; have HB := n0_; have BK104 := n2_; have BKA := n1_; clear n0_ n1_ n2_; have hcz_0 : wb.cell? ⟨ga, 9, none⟩ = some (.int .i64 257) := (blk_cell BKA.out 9).trans rfl; have hcz_1 : wb.cell? ⟨ga, 10, none⟩ = some (.int .i64 3) := (blk_cell BKA.out 10).trans rfl; have hcz_2 : wb.cell? ⟨ga, 11, none⟩ = some (.int .i64 8) := (blk_cell BKA.out 11).trans rfl; have hczb_0 : wb.cell? ⟨gb104, 0, none⟩ = some (.int .i64 0) := (blk_cell BK104.out 0).trans rfl; have hfzb_0 := blk_frozen BK104.out 0; have hczb_1 : wb.cell? ⟨gb104, 1, none⟩ = some (.int .i64 0) := (blk_cell BK104.out 1).trans rfl; have hfzb_1 := blk_frozen BK104.out 1; have hczb_2 : wb.cell? ⟨gb104, 2, none⟩ = some (.int .i64 0) := (blk_cell BK104.out 2).trans rfl; have hfzb_2 := blk_frozen BK104.out 2))
  refine bodyPost_ret (results_ct rfl _ _ gb104 44 #[.int .i64 257, .int .i64 3, .int .i64 8] (0, 0) _ rfl (by (with_reducible repeat (first | refine blk_drewN ?_ _ | refine blk_drew ?_ | refine blk_alloc ?_ _)); refine blk_put (cs := #[.int .i64 257, .int .i64 3, .int .i64 0]) ?_ 2 _ rfl; (with_reducible repeat (first | refine blk_drewN ?_ _ | refine blk_drew ?_ | refine blk_alloc ?_ _)); refine blk_put (cs := #[.int .i64 257, .int .i64 0, .int .i64 0]) ?_ 1 _ rfl; (with_reducible repeat (first | refine blk_drewN ?_ _ | refine blk_drew ?_ | refine blk_alloc ?_ _)); refine blk_put (cs := #[.int .i64 0, .int .i64 0, .int .i64 0]) ?_ 0 _ rfl; (with_reducible repeat (first | refine blk_drewN ?_ _ | refine blk_drew ?_ | refine blk_alloc ?_ _)); exact BK104.out) Try.underlying44 rfl (by kernel_rfl)) rfl ?_
  exact ⟨by first | rfl | (simp [errW_none, errW_some] <;> rfl) | (simp [*, errW_none, errW_some] <;> rfl), by repeat (first | (with_reducible first | exact HB.out | apply below_alloc | apply pw_below_drewN | apply below_drew1 | refine below_set ?_ GE104.out) | exact HB.out)⟩
set_option maxHeartbeats 8000000 in
set_option maxRecDepth 100000 in
theorem impl_fieldOf.at4 (w : World) : Calls Try.prog 51 #[.int .i64 4] w fun e w' => e = .returned (.tuple #[.agg #[.int .i64 7681, .int .i64 17, .int .i64 9], .bool true]) ∧ Below w.heap.size w w' := by
  have HB := Aside0.mk (Below.refl w.heap.size w)
  go_enter Try.func51, Try.ntmps51
  go_wp2_with (first | ((with_reducible refine gate_dst (N := 2) rfl ?_); refine box_event ?hg (N := 2) ?hd (cs := #[.int .i64 0, .int .i64 0, .int .i64 0]) (t := 44) ?hr ?_; (case hd => rfl); (case hg => rfl); (case hr => first | (go_simp; done) | (go_simp; rfl)); intro gb104 hg w3 hbox hb; have n0_ := Aside0.mk (below_step (by repeat (first | (with_reducible first | exact HB.out | apply below_alloc | apply pw_below_drewN | apply below_drew1) | exact HB.out)) hb); have n1_ := Aside0.mk (hbox); have n3_ := Aside0.mk ((by rw [hg]; exact (below_size (by repeat (first | (with_reducible first | exact HB.out | apply below_alloc | apply pw_below_drewN | apply below_drew1) | exact HB.out))) : w.heap.size ≤ gb104)); clear HB; have HB := n0_; have BK104 := n1_; have GE104 := n3_; clear n0_ n1_ n3_; clear hb hbox hg) | ((with_reducible refine gate_dst (N := 14) rfl ?_); refine wpList_build rfl 55 _ rfl (by kernel_rfl) ?_; rw [show ((Try.prog.built 55 _).getD #[] : Array Value) = #[.int .i64 17, .int .i64 3, .int .i64 4, .int .i64 97, .int .i64 5, .int .i64 5, .int .i64 193, .int .i64 5, .int .i64 6, .int .i64 257, .int .i64 3, .int .i64 8, .int .i64 7681, .int .i64 17, .int .i64 9, .int .i64 12289, .int .i64 11, .int .i64 12, .int .i64 998244353, .int .i64 3, .int .i64 23, .int .i64 469762049, .int .i64 3, .int .i64 26, .int .i64 1004535809, .int .i64 3, .int .i64 21] from by kernel_rfl]) | ((with_reducible refine gate_dst (N := 4) rfl ?_); refine box_event ?hg (N := 4) ?hd (cs := #[.int .i64 0, .int .i64 0, .int .i64 0, .int .i64 0, .int .i64 0, .int .i64 0, .int .i64 0, .int .i64 0, .int .i64 0, .int .i64 0, .int .i64 0, .int .i64 0, .int .i64 0, .int .i64 0, .int .i64 0, .int .i64 0, .int .i64 0, .int .i64 0, .int .i64 0, .int .i64 0, .int .i64 0, .int .i64 0, .int .i64 0, .int .i64 0, .int .i64 0, .int .i64 0, .int .i64 0]) (t := 55) ?hr ?_; (case hd => rfl); (case hg => rfl); (case hr => first | (go_simp; done) | (go_simp; rfl)); intro ga hg wa hbox hb; have n0_ := Aside0.mk (below_step (by repeat (first | (with_reducible first | exact HB.out | apply below_alloc | apply pw_below_drewN | apply below_drew1) | exact HB.out)) hb); have n1_ := Aside0.mk (hbox); have n2_ := Aside0.mk (blk_below BK104.out hb); have n3_ := Aside0.mk ((by rw [hg]; exact (below_size (by repeat (first | (with_reducible first | exact HB.out | apply below_alloc | apply pw_below_drewN | apply below_drew1) | exact HB.out))) : w.heap.size ≤ ga)); have n4_ := Aside0.mk ((by rw [hg]; exact Nat.ne_of_lt (blk_lt BK104.out)) : gb104 ≠ ga); clear HB BK104; have HB := n0_; have BK104 := n2_; have BKA := n1_; have GEA := n3_; have NEA := n4_; clear n0_ n1_ n2_ n3_ n4_; clear hb hbox hg) | ((with_reducible refine gate_store (t := 55) (p := 4) rfl ?_); refine store_row_event rfl 55 _ _ rfl ga #[.int .i64 17, .int .i64 3, .int .i64 4, .int .i64 97, .int .i64 5, .int .i64 5, .int .i64 193, .int .i64 5, .int .i64 6, .int .i64 257, .int .i64 3, .int .i64 8, .int .i64 7681, .int .i64 17, .int .i64 9, .int .i64 12289, .int .i64 11, .int .i64 12, .int .i64 998244353, .int .i64 3, .int .i64 23, .int .i64 469762049, .int .i64 3, .int .i64 26, .int .i64 1004535809, .int .i64 3, .int .i64 21] rfl rfl 55 _ BKA.out (by kernel_rfl) rfl (by kernel_rfl) ?_; intro wb hb1 hb2 hb3; have n1_ := Aside0.mk hb1; have n2_ := Aside0.mk ((hb2 gb104 NEA.out).trans BK104.out); have n0_ := Aside0.mk (hb3 w HB.out GEA.out); clear HB BK104 BKA hb1 hb2 hb3; have HB := n0_; have BK104 := n2_; have BKA := n1_; clear n0_ n1_ n2_; have hcz_0 : wb.cell? ⟨ga, 12, none⟩ = some (.int .i64 7681) := (blk_cell BKA.out 12).trans rfl; have hcz_1 : wb.cell? ⟨ga, 13, none⟩ = some (.int .i64 17) := (blk_cell BKA.out 13).trans rfl; have hcz_2 : wb.cell? ⟨ga, 14, none⟩ = some (.int .i64 9) := (blk_cell BKA.out 14).trans rfl; have hczb_0 : wb.cell? ⟨gb104, 0, none⟩ = some (.int .i64 0) := (blk_cell BK104.out 0).trans rfl; have hfzb_0 := blk_frozen BK104.out 0; have hczb_1 : wb.cell? ⟨gb104, 1, none⟩ = some (.int .i64 0) := (blk_cell BK104.out 1).trans rfl; have hfzb_1 := blk_frozen BK104.out 1; have hczb_2 : wb.cell? ⟨gb104, 2, none⟩ = some (.int .i64 0) := (blk_cell BK104.out 2).trans rfl; have hfzb_2 := blk_frozen BK104.out 2))
  refine bodyPost_ret (results_ct rfl _ _ gb104 44 #[.int .i64 7681, .int .i64 17, .int .i64 9] (0, 0) _ rfl (by (with_reducible repeat (first | refine blk_drewN ?_ _ | refine blk_drew ?_ | refine blk_alloc ?_ _)); refine blk_put (cs := #[.int .i64 7681, .int .i64 17, .int .i64 0]) ?_ 2 _ rfl; (with_reducible repeat (first | refine blk_drewN ?_ _ | refine blk_drew ?_ | refine blk_alloc ?_ _)); refine blk_put (cs := #[.int .i64 7681, .int .i64 0, .int .i64 0]) ?_ 1 _ rfl; (with_reducible repeat (first | refine blk_drewN ?_ _ | refine blk_drew ?_ | refine blk_alloc ?_ _)); refine blk_put (cs := #[.int .i64 0, .int .i64 0, .int .i64 0]) ?_ 0 _ rfl; (with_reducible repeat (first | refine blk_drewN ?_ _ | refine blk_drew ?_ | refine blk_alloc ?_ _)); exact BK104.out) Try.underlying44 rfl (by kernel_rfl)) rfl ?_
  exact ⟨by first | rfl | (simp [errW_none, errW_some] <;> rfl) | (simp [*, errW_none, errW_some] <;> rfl), by repeat (first | (with_reducible first | exact HB.out | apply below_alloc | apply pw_below_drewN | apply below_drew1 | refine below_set ?_ GE104.out) | exact HB.out)⟩
set_option maxHeartbeats 8000000 in
set_option maxRecDepth 100000 in
theorem impl_fieldOf.at5 (w : World) : Calls Try.prog 51 #[.int .i64 5] w fun e w' => e = .returned (.tuple #[.agg #[.int .i64 12289, .int .i64 11, .int .i64 12], .bool true]) ∧ Below w.heap.size w w' := by
  have HB := Aside0.mk (Below.refl w.heap.size w)
  go_enter Try.func51, Try.ntmps51
  go_wp2_with (first | ((with_reducible refine gate_dst (N := 2) rfl ?_); refine box_event ?hg (N := 2) ?hd (cs := #[.int .i64 0, .int .i64 0, .int .i64 0]) (t := 44) ?hr ?_; (case hd => rfl); (case hg => rfl); (case hr => first | (go_simp; done) | (go_simp; rfl)); intro gb104 hg w3 hbox hb; have n0_ := Aside0.mk (below_step (by repeat (first | (with_reducible first | exact HB.out | apply below_alloc | apply pw_below_drewN | apply below_drew1) | exact HB.out)) hb); have n1_ := Aside0.mk (hbox); have n3_ := Aside0.mk ((by rw [hg]; exact (below_size (by repeat (first | (with_reducible first | exact HB.out | apply below_alloc | apply pw_below_drewN | apply below_drew1) | exact HB.out))) : w.heap.size ≤ gb104)); clear HB; have HB := n0_; have BK104 := n1_; have GE104 := n3_; clear n0_ n1_ n3_; clear hb hbox hg) | ((with_reducible refine gate_dst (N := 14) rfl ?_); refine wpList_build rfl 55 _ rfl (by kernel_rfl) ?_; rw [show ((Try.prog.built 55 _).getD #[] : Array Value) = #[.int .i64 17, .int .i64 3, .int .i64 4, .int .i64 97, .int .i64 5, .int .i64 5, .int .i64 193, .int .i64 5, .int .i64 6, .int .i64 257, .int .i64 3, .int .i64 8, .int .i64 7681, .int .i64 17, .int .i64 9, .int .i64 12289, .int .i64 11, .int .i64 12, .int .i64 998244353, .int .i64 3, .int .i64 23, .int .i64 469762049, .int .i64 3, .int .i64 26, .int .i64 1004535809, .int .i64 3, .int .i64 21] from by kernel_rfl]) | ((with_reducible refine gate_dst (N := 4) rfl ?_); refine box_event ?hg (N := 4) ?hd (cs := #[.int .i64 0, .int .i64 0, .int .i64 0, .int .i64 0, .int .i64 0, .int .i64 0, .int .i64 0, .int .i64 0, .int .i64 0, .int .i64 0, .int .i64 0, .int .i64 0, .int .i64 0, .int .i64 0, .int .i64 0, .int .i64 0, .int .i64 0, .int .i64 0, .int .i64 0, .int .i64 0, .int .i64 0, .int .i64 0, .int .i64 0, .int .i64 0, .int .i64 0, .int .i64 0, .int .i64 0]) (t := 55) ?hr ?_; (case hd => rfl); (case hg => rfl); (case hr => first | (go_simp; done) | (go_simp; rfl)); intro ga hg wa hbox hb; have n0_ := Aside0.mk (below_step (by repeat (first | (with_reducible first | exact HB.out | apply below_alloc | apply pw_below_drewN | apply below_drew1) | exact HB.out)) hb); have n1_ := Aside0.mk (hbox); have n2_ := Aside0.mk (blk_below BK104.out hb); have n3_ := Aside0.mk ((by rw [hg]; exact (below_size (by repeat (first | (with_reducible first | exact HB.out | apply below_alloc | apply pw_below_drewN | apply below_drew1) | exact HB.out))) : w.heap.size ≤ ga)); have n4_ := Aside0.mk ((by rw [hg]; exact Nat.ne_of_lt (blk_lt BK104.out)) : gb104 ≠ ga); clear HB BK104; have HB := n0_; have BK104 := n2_; have BKA := n1_; have GEA := n3_; have NEA := n4_; clear n0_ n1_ n2_ n3_ n4_; clear hb hbox hg) | ((with_reducible refine gate_store (t := 55) (p := 4) rfl ?_); refine store_row_event rfl 55 _ _ rfl ga #[.int .i64 17, .int .i64 3, .int .i64 4, .int .i64 97, .int .i64 5, .int .i64 5, .int .i64 193, .int .i64 5, .int .i64 6, .int .i64 257, .int .i64 3, .int .i64 8, .int .i64 7681, .int .i64 17, .int .i64 9, .int .i64 12289, .int .i64 11, .int .i64 12, .int .i64 998244353, .int .i64 3, .int .i64 23, .int .i64 469762049, .int .i64 3, .int .i64 26, .int .i64 1004535809, .int .i64 3, .int .i64 21] rfl rfl 55 _ BKA.out (by kernel_rfl) rfl (by kernel_rfl) ?_; intro wb hb1 hb2 hb3; have n1_ := Aside0.mk hb1; have n2_ := Aside0.mk ((hb2 gb104 NEA.out).trans BK104.out); have n0_ := Aside0.mk (hb3 w HB.out GEA.out); clear HB BK104 BKA hb1 hb2 hb3; have HB := n0_; have BK104 := n2_; have BKA := n1_; clear n0_ n1_ n2_; have hcz_0 : wb.cell? ⟨ga, 15, none⟩ = some (.int .i64 12289) := (blk_cell BKA.out 15).trans rfl; have hcz_1 : wb.cell? ⟨ga, 16, none⟩ = some (.int .i64 11) := (blk_cell BKA.out 16).trans rfl; have hcz_2 : wb.cell? ⟨ga, 17, none⟩ = some (.int .i64 12) := (blk_cell BKA.out 17).trans rfl; have hczb_0 : wb.cell? ⟨gb104, 0, none⟩ = some (.int .i64 0) := (blk_cell BK104.out 0).trans rfl; have hfzb_0 := blk_frozen BK104.out 0; have hczb_1 : wb.cell? ⟨gb104, 1, none⟩ = some (.int .i64 0) := (blk_cell BK104.out 1).trans rfl; have hfzb_1 := blk_frozen BK104.out 1; have hczb_2 : wb.cell? ⟨gb104, 2, none⟩ = some (.int .i64 0) := (blk_cell BK104.out 2).trans rfl; have hfzb_2 := blk_frozen BK104.out 2))
  refine bodyPost_ret (results_ct rfl _ _ gb104 44 #[.int .i64 12289, .int .i64 11, .int .i64 12] (0, 0) _ rfl (by (with_reducible repeat (first | refine blk_drewN ?_ _ | refine blk_drew ?_ | refine blk_alloc ?_ _)); refine blk_put (cs := #[.int .i64 12289, .int .i64 11, .int .i64 0]) ?_ 2 _ rfl; (with_reducible repeat (first | refine blk_drewN ?_ _ | refine blk_drew ?_ | refine blk_alloc ?_ _)); refine blk_put (cs := #[.int .i64 12289, .int .i64 0, .int .i64 0]) ?_ 1 _ rfl; (with_reducible repeat (first | refine blk_drewN ?_ _ | refine blk_drew ?_ | refine blk_alloc ?_ _)); refine blk_put (cs := #[.int .i64 0, .int .i64 0, .int .i64 0]) ?_ 0 _ rfl; (with_reducible repeat (first | refine blk_drewN ?_ _ | refine blk_drew ?_ | refine blk_alloc ?_ _)); exact BK104.out) Try.underlying44 rfl (by kernel_rfl)) rfl ?_
  exact ⟨by first | rfl | (simp [errW_none, errW_some] <;> rfl) | (simp [*, errW_none, errW_some] <;> rfl), by repeat (first | (with_reducible first | exact HB.out | apply below_alloc | apply pw_below_drewN | apply below_drew1 | refine below_set ?_ GE104.out) | exact HB.out)⟩
set_option maxHeartbeats 8000000 in
set_option maxRecDepth 100000 in
theorem impl_fieldOf.at6 (w : World) : Calls Try.prog 51 #[.int .i64 6] w fun e w' => e = .returned (.tuple #[.agg #[.int .i64 998244353, .int .i64 3, .int .i64 23], .bool true]) ∧ Below w.heap.size w w' := by
  have HB := Aside0.mk (Below.refl w.heap.size w)
  go_enter Try.func51, Try.ntmps51
  go_wp2_with (first | ((with_reducible refine gate_dst (N := 2) rfl ?_); refine box_event ?hg (N := 2) ?hd (cs := #[.int .i64 0, .int .i64 0, .int .i64 0]) (t := 44) ?hr ?_; (case hd => rfl); (case hg => rfl); (case hr => first | (go_simp; done) | (go_simp; rfl)); intro gb104 hg w3 hbox hb; have n0_ := Aside0.mk (below_step (by repeat (first | (with_reducible first | exact HB.out | apply below_alloc | apply pw_below_drewN | apply below_drew1) | exact HB.out)) hb); have n1_ := Aside0.mk (hbox); have n3_ := Aside0.mk ((by rw [hg]; exact (below_size (by repeat (first | (with_reducible first | exact HB.out | apply below_alloc | apply pw_below_drewN | apply below_drew1) | exact HB.out))) : w.heap.size ≤ gb104)); clear HB; have HB := n0_; have BK104 := n1_; have GE104 := n3_; clear n0_ n1_ n3_; clear hb hbox hg) | ((with_reducible refine gate_dst (N := 14) rfl ?_); refine wpList_build rfl 55 _ rfl (by kernel_rfl) ?_; rw [show ((Try.prog.built 55 _).getD #[] : Array Value) = #[.int .i64 17, .int .i64 3, .int .i64 4, .int .i64 97, .int .i64 5, .int .i64 5, .int .i64 193, .int .i64 5, .int .i64 6, .int .i64 257, .int .i64 3, .int .i64 8, .int .i64 7681, .int .i64 17, .int .i64 9, .int .i64 12289, .int .i64 11, .int .i64 12, .int .i64 998244353, .int .i64 3, .int .i64 23, .int .i64 469762049, .int .i64 3, .int .i64 26, .int .i64 1004535809, .int .i64 3, .int .i64 21] from by kernel_rfl]) | ((with_reducible refine gate_dst (N := 4) rfl ?_); refine box_event ?hg (N := 4) ?hd (cs := #[.int .i64 0, .int .i64 0, .int .i64 0, .int .i64 0, .int .i64 0, .int .i64 0, .int .i64 0, .int .i64 0, .int .i64 0, .int .i64 0, .int .i64 0, .int .i64 0, .int .i64 0, .int .i64 0, .int .i64 0, .int .i64 0, .int .i64 0, .int .i64 0, .int .i64 0, .int .i64 0, .int .i64 0, .int .i64 0, .int .i64 0, .int .i64 0, .int .i64 0, .int .i64 0, .int .i64 0]) (t := 55) ?hr ?_; (case hd => rfl); (case hg => rfl); (case hr => first | (go_simp; done) | (go_simp; rfl)); intro ga hg wa hbox hb; have n0_ := Aside0.mk (below_step (by repeat (first | (with_reducible first | exact HB.out | apply below_alloc | apply pw_below_drewN | apply below_drew1) | exact HB.out)) hb); have n1_ := Aside0.mk (hbox); have n2_ := Aside0.mk (blk_below BK104.out hb); have n3_ := Aside0.mk ((by rw [hg]; exact (below_size (by repeat (first | (with_reducible first | exact HB.out | apply below_alloc | apply pw_below_drewN | apply below_drew1) | exact HB.out))) : w.heap.size ≤ ga)); have n4_ := Aside0.mk ((by rw [hg]; exact Nat.ne_of_lt (blk_lt BK104.out)) : gb104 ≠ ga); clear HB BK104; have HB := n0_; have BK104 := n2_; have BKA := n1_; have GEA := n3_; have NEA := n4_; clear n0_ n1_ n2_ n3_ n4_; clear hb hbox hg) | ((with_reducible refine gate_store (t := 55) (p := 4) rfl ?_); refine store_row_event rfl 55 _ _ rfl ga #[.int .i64 17, .int .i64 3, .int .i64 4, .int .i64 97, .int .i64 5, .int .i64 5, .int .i64 193, .int .i64 5, .int .i64 6, .int .i64 257, .int .i64 3, .int .i64 8, .int .i64 7681, .int .i64 17, .int .i64 9, .int .i64 12289, .int .i64 11, .int .i64 12, .int .i64 998244353, .int .i64 3, .int .i64 23, .int .i64 469762049, .int .i64 3, .int .i64 26, .int .i64 1004535809, .int .i64 3, .int .i64 21] rfl rfl 55 _ BKA.out (by kernel_rfl) rfl (by kernel_rfl) ?_; intro wb hb1 hb2 hb3; have n1_ := Aside0.mk hb1; have n2_ := Aside0.mk ((hb2 gb104 NEA.out).trans BK104.out); have n0_ := Aside0.mk (hb3 w HB.out GEA.out); clear HB BK104 BKA hb1 hb2 hb3; have HB := n0_; have BK104 := n2_; have BKA := n1_; clear n0_ n1_ n2_; have hcz_0 : wb.cell? ⟨ga, 18, none⟩ = some (.int .i64 998244353) := (blk_cell BKA.out 18).trans rfl; have hcz_1 : wb.cell? ⟨ga, 19, none⟩ = some (.int .i64 3) := (blk_cell BKA.out 19).trans rfl; have hcz_2 : wb.cell? ⟨ga, 20, none⟩ = some (.int .i64 23) := (blk_cell BKA.out 20).trans rfl; have hczb_0 : wb.cell? ⟨gb104, 0, none⟩ = some (.int .i64 0) := (blk_cell BK104.out 0).trans rfl; have hfzb_0 := blk_frozen BK104.out 0; have hczb_1 : wb.cell? ⟨gb104, 1, none⟩ = some (.int .i64 0) := (blk_cell BK104.out 1).trans rfl; have hfzb_1 := blk_frozen BK104.out 1; have hczb_2 : wb.cell? ⟨gb104, 2, none⟩ = some (.int .i64 0) := (blk_cell BK104.out 2).trans rfl; have hfzb_2 := blk_frozen BK104.out 2))
  refine bodyPost_ret (results_ct rfl _ _ gb104 44 #[.int .i64 998244353, .int .i64 3, .int .i64 23] (0, 0) _ rfl (by (with_reducible repeat (first | refine blk_drewN ?_ _ | refine blk_drew ?_ | refine blk_alloc ?_ _)); refine blk_put (cs := #[.int .i64 998244353, .int .i64 3, .int .i64 0]) ?_ 2 _ rfl; (with_reducible repeat (first | refine blk_drewN ?_ _ | refine blk_drew ?_ | refine blk_alloc ?_ _)); refine blk_put (cs := #[.int .i64 998244353, .int .i64 0, .int .i64 0]) ?_ 1 _ rfl; (with_reducible repeat (first | refine blk_drewN ?_ _ | refine blk_drew ?_ | refine blk_alloc ?_ _)); refine blk_put (cs := #[.int .i64 0, .int .i64 0, .int .i64 0]) ?_ 0 _ rfl; (with_reducible repeat (first | refine blk_drewN ?_ _ | refine blk_drew ?_ | refine blk_alloc ?_ _)); exact BK104.out) Try.underlying44 rfl (by kernel_rfl)) rfl ?_
  exact ⟨by first | rfl | (simp [errW_none, errW_some] <;> rfl) | (simp [*, errW_none, errW_some] <;> rfl), by repeat (first | (with_reducible first | exact HB.out | apply below_alloc | apply pw_below_drewN | apply below_drew1 | refine below_set ?_ GE104.out) | exact HB.out)⟩
set_option maxHeartbeats 8000000 in
set_option maxRecDepth 100000 in
theorem impl_fieldOf.at7 (w : World) : Calls Try.prog 51 #[.int .i64 7] w fun e w' => e = .returned (.tuple #[.agg #[.int .i64 469762049, .int .i64 3, .int .i64 26], .bool true]) ∧ Below w.heap.size w w' := by
  have HB := Aside0.mk (Below.refl w.heap.size w)
  go_enter Try.func51, Try.ntmps51
  go_wp2_with (first | ((with_reducible refine gate_dst (N := 2) rfl ?_); refine box_event ?hg (N := 2) ?hd (cs := #[.int .i64 0, .int .i64 0, .int .i64 0]) (t := 44) ?hr ?_; (case hd => rfl); (case hg => rfl); (case hr => first | (go_simp; done) | (go_simp; rfl)); intro gb104 hg w3 hbox hb; have n0_ := Aside0.mk (below_step (by repeat (first | (with_reducible first | exact HB.out | apply below_alloc | apply pw_below_drewN | apply below_drew1) | exact HB.out)) hb); have n1_ := Aside0.mk (hbox); have n3_ := Aside0.mk ((by rw [hg]; exact (below_size (by repeat (first | (with_reducible first | exact HB.out | apply below_alloc | apply pw_below_drewN | apply below_drew1) | exact HB.out))) : w.heap.size ≤ gb104)); clear HB; have HB := n0_; have BK104 := n1_; have GE104 := n3_; clear n0_ n1_ n3_; clear hb hbox hg) | ((with_reducible refine gate_dst (N := 14) rfl ?_); refine wpList_build rfl 55 _ rfl (by kernel_rfl) ?_; rw [show ((Try.prog.built 55 _).getD #[] : Array Value) = #[.int .i64 17, .int .i64 3, .int .i64 4, .int .i64 97, .int .i64 5, .int .i64 5, .int .i64 193, .int .i64 5, .int .i64 6, .int .i64 257, .int .i64 3, .int .i64 8, .int .i64 7681, .int .i64 17, .int .i64 9, .int .i64 12289, .int .i64 11, .int .i64 12, .int .i64 998244353, .int .i64 3, .int .i64 23, .int .i64 469762049, .int .i64 3, .int .i64 26, .int .i64 1004535809, .int .i64 3, .int .i64 21] from by kernel_rfl]) | ((with_reducible refine gate_dst (N := 4) rfl ?_); refine box_event ?hg (N := 4) ?hd (cs := #[.int .i64 0, .int .i64 0, .int .i64 0, .int .i64 0, .int .i64 0, .int .i64 0, .int .i64 0, .int .i64 0, .int .i64 0, .int .i64 0, .int .i64 0, .int .i64 0, .int .i64 0, .int .i64 0, .int .i64 0, .int .i64 0, .int .i64 0, .int .i64 0, .int .i64 0, .int .i64 0, .int .i64 0, .int .i64 0, .int .i64 0, .int .i64 0, .int .i64 0, .int .i64 0, .int .i64 0]) (t := 55) ?hr ?_; (case hd => rfl); (case hg => rfl); (case hr => first | (go_simp; done) | (go_simp; rfl)); intro ga hg wa hbox hb; have n0_ := Aside0.mk (below_step (by repeat (first | (with_reducible first | exact HB.out | apply below_alloc | apply pw_below_drewN | apply below_drew1) | exact HB.out)) hb); have n1_ := Aside0.mk (hbox); have n2_ := Aside0.mk (blk_below BK104.out hb); have n3_ := Aside0.mk ((by rw [hg]; exact (below_size (by repeat (first | (with_reducible first | exact HB.out | apply below_alloc | apply pw_below_drewN | apply below_drew1) | exact HB.out))) : w.heap.size ≤ ga)); have n4_ := Aside0.mk ((by rw [hg]; exact Nat.ne_of_lt (blk_lt BK104.out)) : gb104 ≠ ga); clear HB BK104; have HB := n0_; have BK104 := n2_; have BKA := n1_; have GEA := n3_; have NEA := n4_; clear n0_ n1_ n2_ n3_ n4_; clear hb hbox hg) | ((with_reducible refine gate_store (t := 55) (p := 4) rfl ?_); refine store_row_event rfl 55 _ _ rfl ga #[.int .i64 17, .int .i64 3, .int .i64 4, .int .i64 97, .int .i64 5, .int .i64 5, .int .i64 193, .int .i64 5, .int .i64 6, .int .i64 257, .int .i64 3, .int .i64 8, .int .i64 7681, .int .i64 17, .int .i64 9, .int .i64 12289, .int .i64 11, .int .i64 12, .int .i64 998244353, .int .i64 3, .int .i64 23, .int .i64 469762049, .int .i64 3, .int .i64 26, .int .i64 1004535809, .int .i64 3, .int .i64 21] rfl rfl 55 _ BKA.out (by kernel_rfl) rfl (by kernel_rfl) ?_; intro wb hb1 hb2 hb3; have n1_ := Aside0.mk hb1; have n2_ := Aside0.mk ((hb2 gb104 NEA.out).trans BK104.out); have n0_ := Aside0.mk (hb3 w HB.out GEA.out); clear HB BK104 BKA hb1 hb2 hb3; have HB := n0_; have BK104 := n2_; have BKA := n1_; clear n0_ n1_ n2_; have hcz_0 : wb.cell? ⟨ga, 21, none⟩ = some (.int .i64 469762049) := (blk_cell BKA.out 21).trans rfl; have hcz_1 : wb.cell? ⟨ga, 22, none⟩ = some (.int .i64 3) := (blk_cell BKA.out 22).trans rfl; have hcz_2 : wb.cell? ⟨ga, 23, none⟩ = some (.int .i64 26) := (blk_cell BKA.out 23).trans rfl; have hczb_0 : wb.cell? ⟨gb104, 0, none⟩ = some (.int .i64 0) := (blk_cell BK104.out 0).trans rfl; have hfzb_0 := blk_frozen BK104.out 0; have hczb_1 : wb.cell? ⟨gb104, 1, none⟩ = some (.int .i64 0) := (blk_cell BK104.out 1).trans rfl; have hfzb_1 := blk_frozen BK104.out 1; have hczb_2 : wb.cell? ⟨gb104, 2, none⟩ = some (.int .i64 0) := (blk_cell BK104.out 2).trans rfl; have hfzb_2 := blk_frozen BK104.out 2))
  refine bodyPost_ret (results_ct rfl _ _ gb104 44 #[.int .i64 469762049, .int .i64 3, .int .i64 26] (0, 0) _ rfl (by (with_reducible repeat (first | refine blk_drewN ?_ _ | refine blk_drew ?_ | refine blk_alloc ?_ _)); refine blk_put (cs := #[.int .i64 469762049, .int .i64 3, .int .i64 0]) ?_ 2 _ rfl; (with_reducible repeat (first | refine blk_drewN ?_ _ | refine blk_drew ?_ | refine blk_alloc ?_ _)); refine blk_put (cs := #[.int .i64 469762049, .int .i64 0, .int .i64 0]) ?_ 1 _ rfl; (with_reducible repeat (first | refine blk_drewN ?_ _ | refine blk_drew ?_ | refine blk_alloc ?_ _)); refine blk_put (cs := #[.int .i64 0, .int .i64 0, .int .i64 0]) ?_ 0 _ rfl; (with_reducible repeat (first | refine blk_drewN ?_ _ | refine blk_drew ?_ | refine blk_alloc ?_ _)); exact BK104.out) Try.underlying44 rfl (by kernel_rfl)) rfl ?_
  exact ⟨by first | rfl | (simp [errW_none, errW_some] <;> rfl) | (simp [*, errW_none, errW_some] <;> rfl), by repeat (first | (with_reducible first | exact HB.out | apply below_alloc | apply pw_below_drewN | apply below_drew1 | refine below_set ?_ GE104.out) | exact HB.out)⟩
set_option maxHeartbeats 8000000 in
set_option maxRecDepth 100000 in
theorem impl_fieldOf.at8 (w : World) : Calls Try.prog 51 #[.int .i64 8] w fun e w' => e = .returned (.tuple #[.agg #[.int .i64 1004535809, .int .i64 3, .int .i64 21], .bool true]) ∧ Below w.heap.size w w' := by
  have HB := Aside0.mk (Below.refl w.heap.size w)
  go_enter Try.func51, Try.ntmps51
  go_wp2_with (first | ((with_reducible refine gate_dst (N := 2) rfl ?_); refine box_event ?hg (N := 2) ?hd (cs := #[.int .i64 0, .int .i64 0, .int .i64 0]) (t := 44) ?hr ?_; (case hd => rfl); (case hg => rfl); (case hr => first | (go_simp; done) | (go_simp; rfl)); intro gb104 hg w3 hbox hb; have n0_ := Aside0.mk (below_step (by repeat (first | (with_reducible first | exact HB.out | apply below_alloc | apply pw_below_drewN | apply below_drew1) | exact HB.out)) hb); have n1_ := Aside0.mk (hbox); have n3_ := Aside0.mk ((by rw [hg]; exact (below_size (by repeat (first | (with_reducible first | exact HB.out | apply below_alloc | apply pw_below_drewN | apply below_drew1) | exact HB.out))) : w.heap.size ≤ gb104)); clear HB; have HB := n0_; have BK104 := n1_; have GE104 := n3_; clear n0_ n1_ n3_; clear hb hbox hg) | ((with_reducible refine gate_dst (N := 14) rfl ?_); refine wpList_build rfl 55 _ rfl (by kernel_rfl) ?_; rw [show ((Try.prog.built 55 _).getD #[] : Array Value) = #[.int .i64 17, .int .i64 3, .int .i64 4, .int .i64 97, .int .i64 5, .int .i64 5, .int .i64 193, .int .i64 5, .int .i64 6, .int .i64 257, .int .i64 3, .int .i64 8, .int .i64 7681, .int .i64 17, .int .i64 9, .int .i64 12289, .int .i64 11, .int .i64 12, .int .i64 998244353, .int .i64 3, .int .i64 23, .int .i64 469762049, .int .i64 3, .int .i64 26, .int .i64 1004535809, .int .i64 3, .int .i64 21] from by kernel_rfl]) | ((with_reducible refine gate_dst (N := 4) rfl ?_); refine box_event ?hg (N := 4) ?hd (cs := #[.int .i64 0, .int .i64 0, .int .i64 0, .int .i64 0, .int .i64 0, .int .i64 0, .int .i64 0, .int .i64 0, .int .i64 0, .int .i64 0, .int .i64 0, .int .i64 0, .int .i64 0, .int .i64 0, .int .i64 0, .int .i64 0, .int .i64 0, .int .i64 0, .int .i64 0, .int .i64 0, .int .i64 0, .int .i64 0, .int .i64 0, .int .i64 0, .int .i64 0, .int .i64 0, .int .i64 0]) (t := 55) ?hr ?_; (case hd => rfl); (case hg => rfl); (case hr => first | (go_simp; done) | (go_simp; rfl)); intro ga hg wa hbox hb; have n0_ := Aside0.mk (below_step (by repeat (first | (with_reducible first | exact HB.out | apply below_alloc | apply pw_below_drewN | apply below_drew1) | exact HB.out)) hb); have n1_ := Aside0.mk (hbox); have n2_ := Aside0.mk (blk_below BK104.out hb); have n3_ := Aside0.mk ((by rw [hg]; exact (below_size (by repeat (first | (with_reducible first | exact HB.out | apply below_alloc | apply pw_below_drewN | apply below_drew1) | exact HB.out))) : w.heap.size ≤ ga)); have n4_ := Aside0.mk ((by rw [hg]; exact Nat.ne_of_lt (blk_lt BK104.out)) : gb104 ≠ ga); clear HB BK104; have HB := n0_; have BK104 := n2_; have BKA := n1_; have GEA := n3_; have NEA := n4_; clear n0_ n1_ n2_ n3_ n4_; clear hb hbox hg) | ((with_reducible refine gate_store (t := 55) (p := 4) rfl ?_); refine store_row_event rfl 55 _ _ rfl ga #[.int .i64 17, .int .i64 3, .int .i64 4, .int .i64 97, .int .i64 5, .int .i64 5, .int .i64 193, .int .i64 5, .int .i64 6, .int .i64 257, .int .i64 3, .int .i64 8, .int .i64 7681, .int .i64 17, .int .i64 9, .int .i64 12289, .int .i64 11, .int .i64 12, .int .i64 998244353, .int .i64 3, .int .i64 23, .int .i64 469762049, .int .i64 3, .int .i64 26, .int .i64 1004535809, .int .i64 3, .int .i64 21] rfl rfl 55 _ BKA.out (by kernel_rfl) rfl (by kernel_rfl) ?_; intro wb hb1 hb2 hb3; have n1_ := Aside0.mk hb1; have n2_ := Aside0.mk ((hb2 gb104 NEA.out).trans BK104.out); have n0_ := Aside0.mk (hb3 w HB.out GEA.out); clear HB BK104 BKA hb1 hb2 hb3; have HB := n0_; have BK104 := n2_; have BKA := n1_; clear n0_ n1_ n2_; have hcz_0 : wb.cell? ⟨ga, 24, none⟩ = some (.int .i64 1004535809) := (blk_cell BKA.out 24).trans rfl; have hcz_1 : wb.cell? ⟨ga, 25, none⟩ = some (.int .i64 3) := (blk_cell BKA.out 25).trans rfl; have hcz_2 : wb.cell? ⟨ga, 26, none⟩ = some (.int .i64 21) := (blk_cell BKA.out 26).trans rfl; have hczb_0 : wb.cell? ⟨gb104, 0, none⟩ = some (.int .i64 0) := (blk_cell BK104.out 0).trans rfl; have hfzb_0 := blk_frozen BK104.out 0; have hczb_1 : wb.cell? ⟨gb104, 1, none⟩ = some (.int .i64 0) := (blk_cell BK104.out 1).trans rfl; have hfzb_1 := blk_frozen BK104.out 1; have hczb_2 : wb.cell? ⟨gb104, 2, none⟩ = some (.int .i64 0) := (blk_cell BK104.out 2).trans rfl; have hfzb_2 := blk_frozen BK104.out 2))
  refine bodyPost_ret (results_ct rfl _ _ gb104 44 #[.int .i64 1004535809, .int .i64 3, .int .i64 21] (0, 0) _ rfl (by (with_reducible repeat (first | refine blk_drewN ?_ _ | refine blk_drew ?_ | refine blk_alloc ?_ _)); refine blk_put (cs := #[.int .i64 1004535809, .int .i64 3, .int .i64 0]) ?_ 2 _ rfl; (with_reducible repeat (first | refine blk_drewN ?_ _ | refine blk_drew ?_ | refine blk_alloc ?_ _)); refine blk_put (cs := #[.int .i64 1004535809, .int .i64 0, .int .i64 0]) ?_ 1 _ rfl; (with_reducible repeat (first | refine blk_drewN ?_ _ | refine blk_drew ?_ | refine blk_alloc ?_ _)); refine blk_put (cs := #[.int .i64 0, .int .i64 0, .int .i64 0]) ?_ 0 _ rfl; (with_reducible repeat (first | refine blk_drewN ?_ _ | refine blk_drew ?_ | refine blk_alloc ?_ _)); exact BK104.out) Try.underlying44 rfl (by kernel_rfl)) rfl ?_
  exact ⟨by first | rfl | (simp [errW_none, errW_some] <;> rfl) | (simp [*, errW_none, errW_some] <;> rfl), by repeat (first | (with_reducible first | exact HB.out | apply below_alloc | apply pw_below_drewN | apply below_drew1 | refine below_set ?_ GE104.out) | exact HB.out)⟩
theorem impl_fieldOf.calls (a0 : Int) (r1 : Int) (r2 : Int) (r3 : Int) (r4 : Bool) (w : World) (h : impl_fieldOf.f a0 = some (r1, r2, r3, r4)) :
    Calls Try.prog 51 #[.int .i64 a0] w fun e w' => e = .returned (.tuple #[.agg #[.int .i64 r1, .int .i64 r2, .int .i64 r3], .bool r4]) ∧ Below w.heap.size w w' := by
  unfold impl_fieldOf.f at h
  by_cases c2 : a0 < 0
  · rw [if_pos c2] at h
    simp only [Option.some.injEq, Prod.mk.injEq] at h
    obtain ⟨rfl, rfl, rfl, rfl⟩ := h
    exact impl_fieldOf.low a0 c2 w
  rw [if_neg c2] at h
  by_cases c5 : a0 ≥ 9
  · rw [if_pos c5] at h
    simp only [Option.some.injEq, Prod.mk.injEq] at h
    obtain ⟨rfl, rfl, rfl, rfl⟩ := h
    exact impl_fieldOf.high a0 c2 c5 w
  rw [if_neg c5] at h
  by_cases c10 : a0 = 0
  · rw [if_pos c10] at h
    simp only [Option.some.injEq, Prod.mk.injEq] at h
    obtain ⟨rfl, rfl, rfl, rfl⟩ := h
    subst c10
    exact impl_fieldOf.at0 w
  rw [if_neg c10] at h
  by_cases c11 : a0 = 1
  · rw [if_pos c11] at h
    simp only [Option.some.injEq, Prod.mk.injEq] at h
    obtain ⟨rfl, rfl, rfl, rfl⟩ := h
    subst c11
    exact impl_fieldOf.at1 w
  rw [if_neg c11] at h
  by_cases c12 : a0 = 2
  · rw [if_pos c12] at h
    simp only [Option.some.injEq, Prod.mk.injEq] at h
    obtain ⟨rfl, rfl, rfl, rfl⟩ := h
    subst c12
    exact impl_fieldOf.at2 w
  rw [if_neg c12] at h
  by_cases c13 : a0 = 3
  · rw [if_pos c13] at h
    simp only [Option.some.injEq, Prod.mk.injEq] at h
    obtain ⟨rfl, rfl, rfl, rfl⟩ := h
    subst c13
    exact impl_fieldOf.at3 w
  rw [if_neg c13] at h
  by_cases c14 : a0 = 4
  · rw [if_pos c14] at h
    simp only [Option.some.injEq, Prod.mk.injEq] at h
    obtain ⟨rfl, rfl, rfl, rfl⟩ := h
    subst c14
    exact impl_fieldOf.at4 w
  rw [if_neg c14] at h
  by_cases c15 : a0 = 5
  · rw [if_pos c15] at h
    simp only [Option.some.injEq, Prod.mk.injEq] at h
    obtain ⟨rfl, rfl, rfl, rfl⟩ := h
    subst c15
    exact impl_fieldOf.at5 w
  rw [if_neg c15] at h
  by_cases c16 : a0 = 6
  · rw [if_pos c16] at h
    simp only [Option.some.injEq, Prod.mk.injEq] at h
    obtain ⟨rfl, rfl, rfl, rfl⟩ := h
    subst c16
    exact impl_fieldOf.at6 w
  rw [if_neg c16] at h
  by_cases c17 : a0 = 7
  · rw [if_pos c17] at h
    simp only [Option.some.injEq, Prod.mk.injEq] at h
    obtain ⟨rfl, rfl, rfl, rfl⟩ := h
    subst c17
    exact impl_fieldOf.at7 w
  rw [if_neg c17] at h
  obtain rfl : a0 = 8 := by omega
  simp only [Option.some.injEq, Prod.mk.injEq] at h
  obtain ⟨rfl, rfl, rfl, rfl⟩ := h
  exact impl_fieldOf.at8 w

end Go.Proofs.Ytohneiapknlpgaa.P
