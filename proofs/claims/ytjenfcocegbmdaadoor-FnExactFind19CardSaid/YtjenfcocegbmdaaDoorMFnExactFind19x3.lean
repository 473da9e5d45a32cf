/- The functions that the law FnExactFind19 reaches, as plain functions, and that the code comes to them. Begun as a text of the print over stubs; turned by wip/handstub.py and wip/mend.py. -/
import Derived.Test.YtjenfcocegbmdaaDoorMFnExactFind19x0
import Derived.Test.YtjenfcocegbmdaaDoorMFnExactFind19x2
namespace Go.Proofs.YtjenfcocegbmdaaDoor.MFnExactFind19
open Go.RowKit Go.Proofs.YtjenfcocegbmdaaDoorW.PrintWords Go.Proofs.YtjenfcocegbmdaaDoorW.PrintLast Go.Proofs.YtjenfcocegbmdaaDoorW.PrintMore
attribute [local go_sem] max2_int min2_int max_two min_two max_three min_three max_four min_four   -- for this text's walks alone
set_option linter.unusedVariables false
set_option linter.unusedSimpArgs false

/-! ### spec_l19Letter: function 22 -/
def spec_l19Letter.f (a0 : Int) : Option (Bool) := if a0 ≥ 65 then (if a0 ≤ 90 then (some true) else (if a0 ≥ 97 then (if a0 ≤ 122 then (some true) else ((spec_l1In.f a0 192 591).bind fun t119 => (if t119 = true then (if a0 = 215 then ((spec_l1In.f a0 913 969).bind fun t120 => (if t120 = true then (if a0 = 930 then ((spec_l1In.f a0 1040 1103).bind fun t121 => (some t121)) else (some true)) else ((spec_l1In.f a0 1040 1103).bind fun t122 => (some t122)))) else (if a0 = 247 then ((spec_l1In.f a0 913 969).bind fun t123 => (if t123 = true then (if a0 = 930 then ((spec_l1In.f a0 1040 1103).bind fun t124 => (some t124)) else (some true)) else ((spec_l1In.f a0 1040 1103).bind fun t125 => (some t125)))) else (some true))) else ((spec_l1In.f a0 913 969).bind fun t126 => (if t126 = true then (if a0 = 930 then ((spec_l1In.f a0 1040 1103).bind fun t127 => (some t127)) else (some true)) else ((spec_l1In.f a0 1040 1103).bind fun t128 => (some t128))))))) else ((spec_l1In.f a0 192 591).bind fun t129 => (if t129 = true then (if a0 = 215 then ((spec_l1In.f a0 913 969).bind fun t130 => (if t130 = true then (if a0 = 930 then ((spec_l1In.f a0 1040 1103).bind fun t131 => (some t131)) else (some true)) else ((spec_l1In.f a0 1040 1103).bind fun t132 => (some t132)))) else (if a0 = 247 then ((spec_l1In.f a0 913 969).bind fun t133 => (if t133 = true then (if a0 = 930 then ((spec_l1In.f a0 1040 1103).bind fun t134 => (some t134)) else (some true)) else ((spec_l1In.f a0 1040 1103).bind fun t135 => (some t135)))) else (some true))) else ((spec_l1In.f a0 913 969).bind fun t136 => (if t136 = true then (if a0 = 930 then ((spec_l1In.f a0 1040 1103).bind fun t137 => (some t137)) else (some true)) else ((spec_l1In.f a0 1040 1103).bind fun t138 => (some t138)))))))) else (if a0 ≥ 97 then (if a0 ≤ 122 then (some true) else ((spec_l1In.f a0 192 591).bind fun t139 => (if t139 = true then (if a0 = 215 then ((spec_l1In.f a0 913 969).bind fun t140 => (if t140 = true then (if a0 = 930 then ((spec_l1In.f a0 1040 1103).bind fun t141 => (some t141)) else (some true)) else ((spec_l1In.f a0 1040 1103).bind fun t142 => (some t142)))) else (if a0 = 247 then ((spec_l1In.f a0 913 969).bind fun t143 => (if t143 = true then (if a0 = 930 then ((spec_l1In.f a0 1040 1103).bind fun t144 => (some t144)) else (some true)) else ((spec_l1In.f a0 1040 1103).bind fun t145 => (some t145)))) else (some true))) else ((spec_l1In.f a0 913 969).bind fun t146 => (if t146 = true then (if a0 = 930 then ((spec_l1In.f a0 1040 1103).bind fun t147 => (some t147)) else (some true)) else ((spec_l1In.f a0 1040 1103).bind fun t148 => (some t148))))))) else ((spec_l1In.f a0 192 591).bind fun t149 => (if t149 = true then (if a0 = 215 then ((spec_l1In.f a0 913 969).bind fun t150 => (if t150 = true then (if a0 = 930 then ((spec_l1In.f a0 1040 1103).bind fun t151 => (some t151)) else (some true)) else ((spec_l1In.f a0 1040 1103).bind fun t152 => (some t152)))) else (if a0 = 247 then ((spec_l1In.f a0 913 969).bind fun t153 => (if t153 = true then (if a0 = 930 then ((spec_l1In.f a0 1040 1103).bind fun t154 => (some t154)) else (some true)) else ((spec_l1In.f a0 1040 1103).bind fun t155 => (some t155)))) else (some true))) else ((spec_l1In.f a0 913 969).bind fun t156 => (if t156 = true then (if a0 = 930 then ((spec_l1In.f a0 1040 1103).bind fun t157 => (some t157)) else (some true)) else ((spec_l1In.f a0 1040 1103).bind fun t158 => (some t158)))))))
set_option maxHeartbeats 8000000 in
set_option maxRecDepth 100000 in
theorem spec_l19Letter.calls (a0 : Int) (r : Bool) (w : World) (h : spec_l19Letter.f a0 = some r) :
    Calls Tryd.prog 22 #[.int .i64 a0] w fun e w' => e = .returned (.bool r) ∧ Drawn0 w w' := by
  have H : (if a0 ≥ 65 then (if a0 ≤ 90 then (some true) else (if a0 ≥ 97 then (if a0 ≤ 122 then (some true) else ((spec_l1In.f a0 192 591).bind fun t119 => (if t119 = true then (if a0 = 215 then ((spec_l1In.f a0 913 969).bind fun t120 => (if t120 = true then (if a0 = 930 then ((spec_l1In.f a0 1040 1103).bind fun t121 => (some t121)) else (some true)) else ((spec_l1In.f a0 1040 1103).bind fun t122 => (some t122)))) else (if a0 = 247 then ((spec_l1In.f a0 913 969).bind fun t123 => (if t123 = true then (if a0 = 930 then ((spec_l1In.f a0 1040 1103).bind fun t124 => (some t124)) else (some true)) else ((spec_l1In.f a0 1040 1103).bind fun t125 => (some t125)))) else (some true))) else ((spec_l1In.f a0 913 969).bind fun t126 => (if t126 = true then (if a0 = 930 then ((spec_l1In.f a0 1040 1103).bind fun t127 => (some t127)) else (some true)) else ((spec_l1In.f a0 1040 1103).bind fun t128 => (some t128))))))) else ((spec_l1In.f a0 192 591).bind fun t129 => (if t129 = true then (if a0 = 215 then ((spec_l1In.f a0 913 969).bind fun t130 => (if t130 = true then (if a0 = 930 then ((spec_l1In.f a0 1040 1103).bind fun t131 => (some t131)) else (some true)) else ((spec_l1In.f a0 1040 1103).bind fun t132 => (some t132)))) else (if a0 = 247 then ((spec_l1In.f a0 913 969).bind fun t133 => (if t133 = true then (if a0 = 930 then ((spec_l1In.f a0 1040 1103).bind fun t134 => (some t134)) else (some true)) else ((spec_l1In.f a0 1040 1103).bind fun t135 => (some t135)))) else (some true))) else ((spec_l1In.f a0 913 969).bind fun t136 => (if t136 = true then (if a0 = 930 then ((spec_l1In.f a0 1040 1103).bind fun t137 => (some t137)) else (some true)) else ((spec_l1In.f a0 1040 1103).bind fun t138 => (some t138)))))))) else (if a0 ≥ 97 then (if a0 ≤ 122 then (some true) else ((spec_l1In.f a0 192 591).bind fun t139 => (if t139 = true then (if a0 = 215 then ((spec_l1In.f a0 913 969).bind fun t140 => (if t140 = true then (if a0 = 930 then ((spec_l1In.f a0 1040 1103).bind fun t141 => (some t141)) else (some true)) else ((spec_l1In.f a0 1040 1103).bind fun t142 => (some t142)))) else (if a0 = 247 then ((spec_l1In.f a0 913 969).bind fun t143 => (if t143 = true then (if a0 = 930 then ((spec_l1In.f a0 1040 1103).bind fun t144 => (some t144)) else (some true)) else ((spec_l1In.f a0 1040 1103).bind fun t145 => (some t145)))) else (some true))) else ((spec_l1In.f a0 913 969).bind fun t146 => (if t146 = true then (if a0 = 930 then ((spec_l1In.f a0 1040 1103).bind fun t147 => (some t147)) else (some true)) else ((spec_l1In.f a0 1040 1103).bind fun t148 => (some t148))))))) else ((spec_l1In.f a0 192 591).bind fun t149 => (if t149 = true then (if a0 = 215 then ((spec_l1In.f a0 913 969).bind fun t150 => (if t150 = true then (if a0 = 930 then ((spec_l1In.f a0 1040 1103).bind fun t151 => (some t151)) else (some true)) else ((spec_l1In.f a0 1040 1103).bind fun t152 => (some t152)))) else (if a0 = 247 then ((spec_l1In.f a0 913 969).bind fun t153 => (if t153 = true then (if a0 = 930 then ((spec_l1In.f a0 1040 1103).bind fun t154 => (some t154)) else (some true)) else ((spec_l1In.f a0 1040 1103).bind fun t155 => (some t155)))) else (some true))) else ((spec_l1In.f a0 913 969).bind fun t156 => (if t156 = true then (if a0 = 930 then ((spec_l1In.f a0 1040 1103).bind fun t157 => (some t157)) else (some true)) else ((spec_l1In.f a0 1040 1103).bind fun t158 => (some t158)))))))) = some r := h
  clear h
  by_cases c2 : a0 ≥ 65
  · rw [if_pos c2] at H
    have c2b0 : decide (65 ≤ a0) = true := decide_eq_true c2
    clear c2
    by_cases c3 : a0 ≤ 90
    · rw [if_pos c3] at H
      have c3b0 : decide (a0 ≤ 90) = true := decide_eq_true c3
      clear c3
      obtain rfl := Option.some.inj H
      go_enter Tryd.func22, Tryd.ntmps22
      go_wp2
      go_ret
      exact ⟨by first | rfl | (simp; done) | (simp [*]; done), by repeat (first | exact Drawn0.refl _ | apply Drawn0.step)⟩
    · rw [if_neg c3] at H
      have c3b0 : decide (a0 ≤ 90) = false := decide_eq_false c3
      clear c3
      by_cases c4 : a0 ≥ 97
      · rw [if_pos c4] at H
        have c4b0 : decide (97 ≤ a0) = true := decide_eq_true c4
        clear c4
        by_cases c5 : a0 ≤ 122
        · rw [if_pos c5] at H
          have c5b0 : decide (a0 ≤ 122) = true := decide_eq_true c5
          clear c5
          obtain rfl := Option.some.inj H
          go_enter Tryd.func22, Tryd.ntmps22
          go_wp2
          go_ret
          exact ⟨by first | rfl | (simp; done) | (simp [*]; done), by repeat (first | exact Drawn0.refl _ | apply Drawn0.step)⟩
        · rw [if_neg c5] at H
          have c5b0 : decide (a0 ≤ 122) = false := decide_eq_false c5
          clear c5
          replace H := Option.bind_eq_some_iff.mp H
          obtain ⟨t119, A60, H⟩ := H
          replace H : (if t119 = true then (if a0 = 215 then ((spec_l1In.f a0 913 969).bind fun t120 => (if t120 = true then (if a0 = 930 then ((spec_l1In.f a0 1040 1103).bind fun t121 => (some t121)) else (some true)) else ((spec_l1In.f a0 1040 1103).bind fun t122 => (some t122)))) else (if a0 = 247 then ((spec_l1In.f a0 913 969).bind fun t123 => (if t123 = true then (if a0 = 930 then ((spec_l1In.f a0 1040 1103).bind fun t124 => (some t124)) else (some true)) else ((spec_l1In.f a0 1040 1103).bind fun t125 => (some t125)))) else (some true))) else ((spec_l1In.f a0 913 969).bind fun t126 => (if t126 = true then (if a0 = 930 then ((spec_l1In.f a0 1040 1103).bind fun t127 => (some t127)) else (some true)) else ((spec_l1In.f a0 1040 1103).bind fun t128 => (some t128))))) = some r := H
          have A6 := Aside0.mk A60
          clear A60
          by_cases c7 : t119 = true
          · subst c7
            have H1 : (if a0 = 215 then ((spec_l1In.f a0 913 969).bind fun t120 => (if t120 = true then (if a0 = 930 then ((spec_l1In.f a0 1040 1103).bind fun t121 => (some t121)) else (some true)) else ((spec_l1In.f a0 1040 1103).bind fun t122 => (some t122)))) else (if a0 = 247 then ((spec_l1In.f a0 913 969).bind fun t123 => (if t123 = true then (if a0 = 930 then ((spec_l1In.f a0 1040 1103).bind fun t124 => (some t124)) else (some true)) else ((spec_l1In.f a0 1040 1103).bind fun t125 => (some t125)))) else (some true))) = some r := by rw [if_pos rfl] at H; exact H
            clear H
            have H := H1
            clear H1
            by_cases c8 : a0 = 215
            · rw [if_pos c8] at H
              have c8b0 : (a0 == 215) = true := beq_iff_eq.mpr c8
              have c8b1 : (a0 != 215) = false := bne_eq_false_iff_eq.mpr c8
              clear c8
              replace H := Option.bind_eq_some_iff.mp H
              obtain ⟨t120, A90, H⟩ := H
              replace H : (if t120 = true then (if a0 = 930 then ((spec_l1In.f a0 1040 1103).bind fun t121 => (some t121)) else (some true)) else ((spec_l1In.f a0 1040 1103).bind fun t122 => (some t122))) = some r := H
              have A9 := Aside0.mk A90
              clear A90
              by_cases c10 : t120 = true
              · subst c10
                have H1 : (if a0 = 930 then ((spec_l1In.f a0 1040 1103).bind fun t121 => (some t121)) else (some true)) = some r := by rw [if_pos rfl] at H; exact H
                clear H
                have H := H1
                clear H1
                by_cases c11 : a0 = 930
                · rw [if_pos c11] at H
                  have c11b0 : (a0 == 930) = true := beq_iff_eq.mpr c11
                  have c11b1 : (a0 != 930) = false := bne_eq_false_iff_eq.mpr c11
                  clear c11
                  replace H := Option.bind_eq_some_iff.mp H
                  obtain ⟨t121, A120, H⟩ := H
                  replace H : (some t121) = some r := H
                  have A12 := Aside0.mk A120
                  clear A120
                  obtain rfl := Option.some.inj H
                  go_enter Tryd.func22, Tryd.ntmps22
                  go_wp2_with (first | (go_at_call 23; (with_reducible refine (spec_l1In.calls a0 192 591 true _ A6.out).mono ?_); rintro e w' ⟨rfl, ⟨nd, rfl⟩⟩) | (go_at_call 23; (with_reducible refine (spec_l1In.calls a0 913 969 true _ A9.out).mono ?_); rintro e w' ⟨rfl, ⟨nd, rfl⟩⟩) | (go_at_call 23; (with_reducible refine (spec_l1In.calls a0 1040 1103 t121 _ A12.out).mono ?_); rintro e w' ⟨rfl, ⟨nd, rfl⟩⟩))
                  go_ret
                  exact ⟨by first | rfl | (simp; done) | (simp [*]; done), by repeat (first | exact Drawn0.refl _ | apply Drawn0.step)⟩
                · rw [if_neg c11] at H
                  have c11b0 : (a0 == 930) = false := beq_eq_false_iff_ne.mpr c11
                  have c11b1 : (a0 != 930) = true := bne_iff_ne.mpr c11
                  obtain rfl := Option.some.inj H
                  go_enter Tryd.func22, Tryd.ntmps22
                  go_wp2_with (first | (go_at_call 23; (with_reducible refine (spec_l1In.calls a0 192 591 true _ A6.out).mono ?_); rintro e w' ⟨rfl, ⟨nd, rfl⟩⟩) | (go_at_call 23; (with_reducible refine (spec_l1In.calls a0 913 969 true _ A9.out).mono ?_); rintro e w' ⟨rfl, ⟨nd, rfl⟩⟩))
                  go_ret
                  exact ⟨by first | rfl | (simp; done) | (simp [*]; done), by repeat (first | exact Drawn0.refl _ | apply Drawn0.step)⟩
              · replace c10 := Bool.eq_false_iff.mpr c10
                subst c10
                have H1 : ((spec_l1In.f a0 1040 1103).bind fun t122 => (some t122)) = some r := by rw [if_neg (show ¬ (false = true) by decide)] at H; exact H
                clear H
                have H := H1
                clear H1
                replace H := Option.bind_eq_some_iff.mp H
                obtain ⟨t122, A130, H⟩ := H
                replace H : (some t122) = some r := H
                have A13 := Aside0.mk A130
                clear A130
                obtain rfl := Option.some.inj H
                go_enter Tryd.func22, Tryd.ntmps22
                go_wp2_with (first | (go_at_call 23; (with_reducible refine (spec_l1In.calls a0 192 591 true _ A6.out).mono ?_); rintro e w' ⟨rfl, ⟨nd, rfl⟩⟩) | (go_at_call 23; (with_reducible refine (spec_l1In.calls a0 913 969 false _ A9.out).mono ?_); rintro e w' ⟨rfl, ⟨nd, rfl⟩⟩) | (go_at_call 23; (with_reducible refine (spec_l1In.calls a0 1040 1103 t122 _ A13.out).mono ?_); rintro e w' ⟨rfl, ⟨nd, rfl⟩⟩))
                go_ret
                exact ⟨by first | rfl | (simp; done) | (simp [*]; done), by repeat (first | exact Drawn0.refl _ | apply Drawn0.step)⟩
            · rw [if_neg c8] at H
              have c8b0 : (a0 == 215) = false := beq_eq_false_iff_ne.mpr c8
              have c8b1 : (a0 != 215) = true := bne_iff_ne.mpr c8
              by_cases c14 : a0 = 247
              · rw [if_pos c14] at H
                have c14b0 : (a0 == 247) = true := beq_iff_eq.mpr c14
                have c14b1 : (a0 != 247) = false := bne_eq_false_iff_eq.mpr c14
                clear c14
                replace H := Option.bind_eq_some_iff.mp H
                obtain ⟨t123, A150, H⟩ := H
                replace H : (if t123 = true then (if a0 = 930 then ((spec_l1In.f a0 1040 1103).bind fun t124 => (some t124)) else (some true)) else ((spec_l1In.f a0 1040 1103).bind fun t125 => (some t125))) = some r := H
                have A15 := Aside0.mk A150
                clear A150
                by_cases c16 : t123 = true
                · subst c16
                  have H1 : (if a0 = 930 then ((spec_l1In.f a0 1040 1103).bind fun t124 => (some t124)) else (some true)) = some r := by rw [if_pos rfl] at H; exact H
                  clear H
                  have H := H1
                  clear H1
                  by_cases c17 : a0 = 930
                  · rw [if_pos c17] at H
                    have c17b0 : (a0 == 930) = true := beq_iff_eq.mpr c17
                    have c17b1 : (a0 != 930) = false := bne_eq_false_iff_eq.mpr c17
                    clear c17
                    replace H := Option.bind_eq_some_iff.mp H
                    obtain ⟨t124, A180, H⟩ := H
                    replace H : (some t124) = some r := H
                    have A18 := Aside0.mk A180
                    clear A180
                    obtain rfl := Option.some.inj H
                    go_enter Tryd.func22, Tryd.ntmps22
                    go_wp2_with (first | (go_at_call 23; (with_reducible refine (spec_l1In.calls a0 192 591 true _ A6.out).mono ?_); rintro e w' ⟨rfl, ⟨nd, rfl⟩⟩) | (go_at_call 23; (with_reducible refine (spec_l1In.calls a0 913 969 true _ A15.out).mono ?_); rintro e w' ⟨rfl, ⟨nd, rfl⟩⟩) | (go_at_call 23; (with_reducible refine (spec_l1In.calls a0 1040 1103 t124 _ A18.out).mono ?_); rintro e w' ⟨rfl, ⟨nd, rfl⟩⟩))
                    go_ret
                    exact ⟨by first | rfl | (simp; done) | (simp [*]; done), by repeat (first | exact Drawn0.refl _ | apply Drawn0.step)⟩
                  · rw [if_neg c17] at H
                    have c17b0 : (a0 == 930) = false := beq_eq_false_iff_ne.mpr c17
                    have c17b1 : (a0 != 930) = true := bne_iff_ne.mpr c17
                    obtain rfl := Option.some.inj H
                    go_enter Tryd.func22, Tryd.ntmps22
                    go_wp2_with (first | (go_at_call 23; (with_reducible refine (spec_l1In.calls a0 192 591 true _ A6.out).mono ?_); rintro e w' ⟨rfl, ⟨nd, rfl⟩⟩) | (go_at_call 23; (with_reducible refine (spec_l1In.calls a0 913 969 true _ A15.out).mono ?_); rintro e w' ⟨rfl, ⟨nd, rfl⟩⟩))
                    go_ret
                    exact ⟨by first | rfl | (simp; done) | (simp [*]; done), by repeat (first | exact Drawn0.refl _ | apply Drawn0.step)⟩
                · replace c16 := Bool.eq_false_iff.mpr c16
                  subst c16
                  have H1 : ((spec_l1In.f a0 1040 1103).bind fun t125 => (some t125)) = some r := by rw [if_neg (show ¬ (false = true) by decide)] at H; exact H
                  clear H
                  have H := H1
                  clear H1
                  replace H := Option.bind_eq_some_iff.mp H
                  obtain ⟨t125, A190, H⟩ := H
                  replace H : (some t125) = some r := H
                  have A19 := Aside0.mk A190
                  clear A190
                  obtain rfl := Option.some.inj H
                  go_enter Tryd.func22, Tryd.ntmps22
                  go_wp2_with (first | (go_at_call 23; (with_reducible refine (spec_l1In.calls a0 192 591 true _ A6.out).mono ?_); rintro e w' ⟨rfl, ⟨nd, rfl⟩⟩) | (go_at_call 23; (with_reducible refine (spec_l1In.calls a0 913 969 false _ A15.out).mono ?_); rintro e w' ⟨rfl, ⟨nd, rfl⟩⟩) | (go_at_call 23; (with_reducible refine (spec_l1In.calls a0 1040 1103 t125 _ A19.out).mono ?_); rintro e w' ⟨rfl, ⟨nd, rfl⟩⟩))
                  go_ret
                  exact ⟨by first | rfl | (simp; done) | (simp [*]; done), by repeat (first | exact Drawn0.refl _ | apply Drawn0.step)⟩
              · rw [if_neg c14] at H
                have c14b0 : (a0 == 247) = false := beq_eq_false_iff_ne.mpr c14
                have c14b1 : (a0 != 247) = true := bne_iff_ne.mpr c14
                obtain rfl := Option.some.inj H
                go_enter Tryd.func22, Tryd.ntmps22
                go_wp2_with (first | (go_at_call 23; (with_reducible refine (spec_l1In.calls a0 192 591 true _ A6.out).mono ?_); rintro e w' ⟨rfl, ⟨nd, rfl⟩⟩))
                go_ret
                exact ⟨by first | rfl | (simp; done) | (simp [*]; done), by repeat (first | exact Drawn0.refl _ | apply Drawn0.step)⟩
          · replace c7 := Bool.eq_false_iff.mpr c7
            subst c7
            have H1 : ((spec_l1In.f a0 913 969).bind fun t126 => (if t126 = true then (if a0 = 930 then ((spec_l1In.f a0 1040 1103).bind fun t127 => (some t127)) else (some true)) else ((spec_l1In.f a0 1040 1103).bind fun t128 => (some t128)))) = some r := by rw [if_neg (show ¬ (false = true) by decide)] at H; exact H
            clear H
            have H := H1
            clear H1
            replace H := Option.bind_eq_some_iff.mp H
            obtain ⟨t126, A200, H⟩ := H
            replace H : (if t126 = true then (if a0 = 930 then ((spec_l1In.f a0 1040 1103).bind fun t127 => (some t127)) else (some true)) else ((spec_l1In.f a0 1040 1103).bind fun t128 => (some t128))) = some r := H
            have A20 := Aside0.mk A200
            clear A200
            by_cases c21 : t126 = true
            · subst c21
              have H1 : (if a0 = 930 then ((spec_l1In.f a0 1040 1103).bind fun t127 => (some t127)) else (some true)) = some r := by rw [if_pos rfl] at H; exact H
              clear H
              have H := H1
              clear H1
              by_cases c22 : a0 = 930
              · rw [if_pos c22] at H
                have c22b0 : (a0 == 930) = true := beq_iff_eq.mpr c22
                have c22b1 : (a0 != 930) = false := bne_eq_false_iff_eq.mpr c22
                clear c22
                replace H := Option.bind_eq_some_iff.mp H
                obtain ⟨t127, A230, H⟩ := H
                replace H : (some t127) = some r := H
                have A23 := Aside0.mk A230
                clear A230
                obtain rfl := Option.some.inj H
                go_enter Tryd.func22, Tryd.ntmps22
                go_wp2_with (first | (go_at_call 23; (with_reducible refine (spec_l1In.calls a0 192 591 false _ A6.out).mono ?_); rintro e w' ⟨rfl, ⟨nd, rfl⟩⟩) | (go_at_call 23; (with_reducible refine (spec_l1In.calls a0 913 969 true _ A20.out).mono ?_); rintro e w' ⟨rfl, ⟨nd, rfl⟩⟩) | (go_at_call 23; (with_reducible refine (spec_l1In.calls a0 1040 1103 t127 _ A23.out).mono ?_); rintro e w' ⟨rfl, ⟨nd, rfl⟩⟩))
                go_ret
                exact ⟨by first | rfl | (simp; done) | (simp [*]; done), by repeat (first | exact Drawn0.refl _ | apply Drawn0.step)⟩
              · rw [if_neg c22] at H
                have c22b0 : (a0 == 930) = false := beq_eq_false_iff_ne.mpr c22
                have c22b1 : (a0 != 930) = true := bne_iff_ne.mpr c22
                obtain rfl := Option.some.inj H
                go_enter Tryd.func22, Tryd.ntmps22
                go_wp2_with (first | (go_at_call 23; (with_reducible refine (spec_l1In.calls a0 192 591 false _ A6.out).mono ?_); rintro e w' ⟨rfl, ⟨nd, rfl⟩⟩) | (go_at_call 23; (with_reducible refine (spec_l1In.calls a0 913 969 true _ A20.out).mono ?_); rintro e w' ⟨rfl, ⟨nd, rfl⟩⟩))
                go_ret
                exact ⟨by first | rfl | (simp; done) | (simp [*]; done), by repeat (first | exact Drawn0.refl _ | apply Drawn0.step)⟩
            · replace c21 := Bool.eq_false_iff.mpr c21
              subst c21
              have H1 : ((spec_l1In.f a0 1040 1103).bind fun t128 => (some t128)) = some r := by rw [if_neg (show ¬ (false = true) by decide)] at H; exact H
              clear H
              have H := H1
              clear H1
              replace H := Option.bind_eq_some_iff.mp H
              obtain ⟨t128, A240, H⟩ := H
              replace H : (some t128) = some r := H
              have A24 := Aside0.mk A240
              clear A240
              obtain rfl := Option.some.inj H
              go_enter Tryd.func22, Tryd.ntmps22
              go_wp2_with (first | (go_at_call 23; (with_reducible refine (spec_l1In.calls a0 192 591 false _ A6.out).mono ?_); rintro e w' ⟨rfl, ⟨nd, rfl⟩⟩) | (go_at_call 23; (with_reducible refine (spec_l1In.calls a0 913 969 false _ A20.out).mono ?_); rintro e w' ⟨rfl, ⟨nd, rfl⟩⟩) | (go_at_call 23; (with_reducible refine (spec_l1In.calls a0 1040 1103 t128 _ A24.out).mono ?_); rintro e w' ⟨rfl, ⟨nd, rfl⟩⟩))
              go_ret
              exact ⟨by first | rfl | (simp; done) | (simp [*]; done), by repeat (first | exact Drawn0.refl _ | apply Drawn0.step)⟩
      · rw [if_neg c4] at H
        have c4b0 : decide (97 ≤ a0) = false := decide_eq_false c4
        clear c4
        replace H := Option.bind_eq_some_iff.mp H
        obtain ⟨t129, A250, H⟩ := H
        replace H : (if t129 = true then (if a0 = 215 then ((spec_l1In.f a0 913 969).bind fun t130 => (if t130 = true then (if a0 = 930 then ((spec_l1In.f a0 1040 1103).bind fun t131 => (some t131)) else (some true)) else ((spec_l1In.f a0 1040 1103).bind fun t132 => (some t132)))) else (if a0 = 247 then ((spec_l1In.f a0 913 969).bind fun t133 => (if t133 = true then (if a0 = 930 then ((spec_l1In.f a0 1040 1103).bind fun t134 => (some t134)) else (some true)) else ((spec_l1In.f a0 1040 1103).bind fun t135 => (some t135)))) else (some true))) else ((spec_l1In.f a0 913 969).bind fun t136 => (if t136 = true then (if a0 = 930 then ((spec_l1In.f a0 1040 1103).bind fun t137 => (some t137)) else (some true)) else ((spec_l1In.f a0 1040 1103).bind fun t138 => (some t138))))) = some r := H
        have A25 := Aside0.mk A250
        clear A250
        by_cases c26 : t129 = true
        · subst c26
          have H1 : (if a0 = 215 then ((spec_l1In.f a0 913 969).bind fun t130 => (if t130 = true then (if a0 = 930 then ((spec_l1In.f a0 1040 1103).bind fun t131 => (some t131)) else (some true)) else ((spec_l1In.f a0 1040 1103).bind fun t132 => (some t132)))) else (if a0 = 247 then ((spec_l1In.f a0 913 969).bind fun t133 => (if t133 = true then (if a0 = 930 then ((spec_l1In.f a0 1040 1103).bind fun t134 => (some t134)) else (some true)) else ((spec_l1In.f a0 1040 1103).bind fun t135 => (some t135)))) else (some true))) = some r := by rw [if_pos rfl] at H; exact H
          clear H
          have H := H1
          clear H1
          by_cases c27 : a0 = 215
          · rw [if_pos c27] at H
            have c27b0 : (a0 == 215) = true := beq_iff_eq.mpr c27
            have c27b1 : (a0 != 215) = false := bne_eq_false_iff_eq.mpr c27
            clear c27
            replace H := Option.bind_eq_some_iff.mp H
            obtain ⟨t130, A280, H⟩ := H
            replace H : (if t130 = true then (if a0 = 930 then ((spec_l1In.f a0 1040 1103).bind fun t131 => (some t131)) else (some true)) else ((spec_l1In.f a0 1040 1103).bind fun t132 => (some t132))) = some r := H
            have A28 := Aside0.mk A280
            clear A280
            by_cases c29 : t130 = true
            · subst c29
              have H1 : (if a0 = 930 then ((spec_l1In.f a0 1040 1103).bind fun t131 => (some t131)) else (some true)) = some r := by rw [if_pos rfl] at H; exact H
              clear H
              have H := H1
              clear H1
              by_cases c30 : a0 = 930
              · rw [if_pos c30] at H
                have c30b0 : (a0 == 930) = true := beq_iff_eq.mpr c30
                have c30b1 : (a0 != 930) = false := bne_eq_false_iff_eq.mpr c30
                clear c30
                replace H := Option.bind_eq_some_iff.mp H
                obtain ⟨t131, A310, H⟩ := H
                replace H : (some t131) = some r := H
                have A31 := Aside0.mk A310
                clear A310
                obtain rfl := Option.some.inj H
                go_enter Tryd.func22, Tryd.ntmps22
                go_wp2_with (first | (go_at_call 23; (with_reducible refine (spec_l1In.calls a0 192 591 true _ A25.out).mono ?_); rintro e w' ⟨rfl, ⟨nd, rfl⟩⟩) | (go_at_call 23; (with_reducible refine (spec_l1In.calls a0 913 969 true _ A28.out).mono ?_); rintro e w' ⟨rfl, ⟨nd, rfl⟩⟩) | (go_at_call 23; (with_reducible refine (spec_l1In.calls a0 1040 1103 t131 _ A31.out).mono ?_); rintro e w' ⟨rfl, ⟨nd, rfl⟩⟩))
                go_ret
                exact ⟨by first | rfl | (simp; done) | (simp [*]; done), by repeat (first | exact Drawn0.refl _ | apply Drawn0.step)⟩
              · rw [if_neg c30] at H
                have c30b0 : (a0 == 930) = false := beq_eq_false_iff_ne.mpr c30
                have c30b1 : (a0 != 930) = true := bne_iff_ne.mpr c30
                obtain rfl := Option.some.inj H
                go_enter Tryd.func22, Tryd.ntmps22
                go_wp2_with (first | (go_at_call 23; (with_reducible refine (spec_l1In.calls a0 192 591 true _ A25.out).mono ?_); rintro e w' ⟨rfl, ⟨nd, rfl⟩⟩) | (go_at_call 23; (with_reducible refine (spec_l1In.calls a0 913 969 true _ A28.out).mono ?_); rintro e w' ⟨rfl, ⟨nd, rfl⟩⟩))
                go_ret
                exact ⟨by first | rfl | (simp; done) | (simp [*]; done), by repeat (first | exact Drawn0.refl _ | apply Drawn0.step)⟩
            · replace c29 := Bool.eq_false_iff.mpr c29
              subst c29
              have H1 : ((spec_l1In.f a0 1040 1103).bind fun t132 => (some t132)) = some r := by rw [if_neg (show ¬ (false = true) by decide)] at H; exact H
              clear H
              have H := H1
              clear H1
              replace H := Option.bind_eq_some_iff.mp H
              obtain ⟨t132, A320, H⟩ := H
              replace H : (some t132) = some r := H
              have A32 := Aside0.mk A320
              clear A320
              obtain rfl := Option.some.inj H
              go_enter Tryd.func22, Tryd.ntmps22
              go_wp2_with (first | (go_at_call 23; (with_reducible refine (spec_l1In.calls a0 192 591 true _ A25.out).mono ?_); rintro e w' ⟨rfl, ⟨nd, rfl⟩⟩) | (go_at_call 23; (with_reducible refine (spec_l1In.calls a0 913 969 false _ A28.out).mono ?_); rintro e w' ⟨rfl, ⟨nd, rfl⟩⟩) | (go_at_call 23; (with_reducible refine (spec_l1In.calls a0 1040 1103 t132 _ A32.out).mono ?_); rintro e w' ⟨rfl, ⟨nd, rfl⟩⟩))
              go_ret
              exact ⟨by first | rfl | (simp; done) | (simp [*]; done), by repeat (first | exact Drawn0.refl _ | apply Drawn0.step)⟩
          · rw [if_neg c27] at H
            have c27b0 : (a0 == 215) = false := beq_eq_false_iff_ne.mpr c27
            have c27b1 : (a0 != 215) = true := bne_iff_ne.mpr c27
            by_cases c33 : a0 = 247
            · rw [if_pos c33] at H
              have c33b0 : (a0 == 247) = true := beq_iff_eq.mpr c33
              have c33b1 : (a0 != 247) = false := bne_eq_false_iff_eq.mpr c33
              clear c33
              replace H := Option.bind_eq_some_iff.mp H
              obtain ⟨t133, A340, H⟩ := H
              replace H : (if t133 = true then (if a0 = 930 then ((spec_l1In.f a0 1040 1103).bind fun t134 => (some t134)) else (some true)) else ((spec_l1In.f a0 1040 1103).bind fun t135 => (some t135))) = some r := H
              have A34 := Aside0.mk A340
              clear A340
              by_cases c35 : t133 = true
              · subst c35
                have H1 : (if a0 = 930 then ((spec_l1In.f a0 1040 1103).bind fun t134 => (some t134)) else (some true)) = some r := by rw [if_pos rfl] at H; exact H
                clear H
                have H := H1
                clear H1
                by_cases c36 : a0 = 930
                · rw [if_pos c36] at H
                  have c36b0 : (a0 == 930) = true := beq_iff_eq.mpr c36
                  have c36b1 : (a0 != 930) = false := bne_eq_false_iff_eq.mpr c36
                  clear c36
                  replace H := Option.bind_eq_some_iff.mp H
                  obtain ⟨t134, A370, H⟩ := H
                  replace H : (some t134) = some r := H
                  have A37 := Aside0.mk A370
                  clear A370
                  obtain rfl := Option.some.inj H
                  go_enter Tryd.func22, Tryd.ntmps22
                  go_wp2_with (first | (go_at_call 23; (with_reducible refine (spec_l1In.calls a0 192 591 true _ A25.out).mono ?_); rintro e w' ⟨rfl, ⟨nd, rfl⟩⟩) | (go_at_call 23; (with_reducible refine (spec_l1In.calls a0 913 969 true _ A34.out).mono ?_); rintro e w' ⟨rfl, ⟨nd, rfl⟩⟩) | (go_at_call 23; (with_reducible refine (spec_l1In.calls a0 1040 1103 t134 _ A37.out).mono ?_); rintro e w' ⟨rfl, ⟨nd, rfl⟩⟩))
                  go_ret
                  exact ⟨by first | rfl | (simp; done) | (simp [*]; done), by repeat (first | exact Drawn0.refl _ | apply Drawn0.step)⟩
                · rw [if_neg c36] at H
                  have c36b0 : (a0 == 930) = false := beq_eq_false_iff_ne.mpr c36
                  have c36b1 : (a0 != 930) = true := bne_iff_ne.mpr c36
                  obtain rfl := Option.some.inj H
                  go_enter Tryd.func22, Tryd.ntmps22
                  go_wp2_with (first | (go_at_call 23; (with_reducible refine (spec_l1In.calls a0 192 591 true _ A25.out).mono ?_); rintro e w' ⟨rfl, ⟨nd, rfl⟩⟩) | (go_at_call 23; (with_reducible refine (spec_l1In.calls a0 913 969 true _ A34.out).mono ?_); rintro e w' ⟨rfl, ⟨nd, rfl⟩⟩))
                  go_ret
                  exact ⟨by first | rfl | (simp; done) | (simp [*]; done), by repeat (first | exact Drawn0.refl _ | apply Drawn0.step)⟩
              · replace c35 := Bool.eq_false_iff.mpr c35
                subst c35
                have H1 : ((spec_l1In.f a0 1040 1103).bind fun t135 => (some t135)) = some r := by rw [if_neg (show ¬ (false = true) by decide)] at H; exact H
                clear H
                have H := H1
                clear H1
                replace H := Option.bind_eq_some_iff.mp H
                obtain ⟨t135, A380, H⟩ := H
                replace H : (some t135) = some r := H
                have A38 := Aside0.mk A380
                clear A380
                obtain rfl := Option.some.inj H
                go_enter Tryd.func22, Tryd.ntmps22
                go_wp2_with (first | (go_at_call 23; (with_reducible refine (spec_l1In.calls a0 192 591 true _ A25.out).mono ?_); rintro e w' ⟨rfl, ⟨nd, rfl⟩⟩) | (go_at_call 23; (with_reducible refine (spec_l1In.calls a0 913 969 false _ A34.out).mono ?_); rintro e w' ⟨rfl, ⟨nd, rfl⟩⟩) | (go_at_call 23; (with_reducible refine (spec_l1In.calls a0 1040 1103 t135 _ A38.out).mono ?_); rintro e w' ⟨rfl, ⟨nd, rfl⟩⟩))
                go_ret
                exact ⟨by first | rfl | (simp; done) | (simp [*]; done), by repeat (first | exact Drawn0.refl _ | apply Drawn0.step)⟩
            · rw [if_neg c33] at H
              have c33b0 : (a0 == 247) = false := beq_eq_false_iff_ne.mpr c33
              have c33b1 : (a0 != 247) = true := bne_iff_ne.mpr c33
              obtain rfl := Option.some.inj H
              go_enter Tryd.func22, Tryd.ntmps22
              go_wp2_with (first | (go_at_call 23; (with_reducible refine (spec_l1In.calls a0 192 591 true _ A25.out).mono ?_); rintro e w' ⟨rfl, ⟨nd, rfl⟩⟩))
              go_ret
              exact ⟨by first | rfl | (simp; done) | (simp [*]; done), by repeat (first | exact Drawn0.refl _ | apply Drawn0.step)⟩
        · replace c26 := Bool.eq_false_iff.mpr c26
          subst c26
          have H1 : ((spec_l1In.f a0 913 969).bind fun t136 => (if t136 = true then (if a0 = 930 then ((spec_l1In.f a0 1040 1103).bind fun t137 => (some t137)) else (some true)) else ((spec_l1In.f a0 1040 1103).bind fun t138 => (some t138)))) = some r := by rw [if_neg (show ¬ (false = true) by decide)] at H; exact H
          clear H
          have H := H1
          clear H1
          replace H := Option.bind_eq_some_iff.mp H
          obtain ⟨t136, A390, H⟩ := H
          replace H : (if t136 = true then (if a0 = 930 then ((spec_l1In.f a0 1040 1103).bind fun t137 => (some t137)) else (some true)) else ((spec_l1In.f a0 1040 1103).bind fun t138 => (some t138))) = some r := H
          have A39 := Aside0.mk A390
          clear A390
          by_cases c40 : t136 = true
          · subst c40
            have H1 : (if a0 = 930 then ((spec_l1In.f a0 1040 1103).bind fun t137 => (some t137)) else (some true)) = some r := by rw [if_pos rfl] at H; exact H
            clear H
            have H := H1
            clear H1
            by_cases c41 : a0 = 930
            · rw [if_pos c41] at H
              have c41b0 : (a0 == 930) = true := beq_iff_eq.mpr c41
              have c41b1 : (a0 != 930) = false := bne_eq_false_iff_eq.mpr c41
              clear c41
              replace H := Option.bind_eq_some_iff.mp H
              obtain ⟨t137, A420, H⟩ := H
              replace H : (some t137) = some r := H
              have A42 := Aside0.mk A420
              clear A420
              obtain rfl := Option.some.inj H
              go_enter Tryd.func22, Tryd.ntmps22
              go_wp2_with (first | (go_at_call 23; (with_reducible refine (spec_l1In.calls a0 192 591 false _ A25.out).mono ?_); rintro e w' ⟨rfl, ⟨nd, rfl⟩⟩) | (go_at_call 23; (with_reducible refine (spec_l1In.calls a0 913 969 true _ A39.out).mono ?_); rintro e w' ⟨rfl, ⟨nd, rfl⟩⟩) | (go_at_call 23; (with_reducible refine (spec_l1In.calls a0 1040 1103 t137 _ A42.out).mono ?_); rintro e w' ⟨rfl, ⟨nd, rfl⟩⟩))
              go_ret
              exact ⟨by first | rfl | (simp; done) | (simp [*]; done), by repeat (first | exact Drawn0.refl _ | apply Drawn0.step)⟩
            · rw [if_neg c41] at H
              have c41b0 : (a0 == 930) = false := beq_eq_false_iff_ne.mpr c41
              have c41b1 : (a0 != 930) = true := bne_iff_ne.mpr c41
              obtain rfl := Option.some.inj H
              go_enter Tryd.func22, Tryd.ntmps22
              go_wp2_with (first | (go_at_call 23; (with_reducible refine (spec_l1In.calls a0 192 591 false _ A25.out).mono ?_); rintro e w' ⟨rfl, ⟨nd, rfl⟩⟩) | (go_at_call 23; (with_reducible refine (spec_l1In.calls a0 913 969 true _ A39.out).mono ?_); rintro e w' ⟨rfl, ⟨nd, rfl⟩⟩))
              go_ret
              exact ⟨by first | rfl | (simp; done) | (simp [*]; done), by repeat (first | exact Drawn0.refl _ | apply Drawn0.step)⟩
          · replace c40 := Bool.eq_false_iff.mpr c40
            subst c40
            have H1 : ((spec_l1In.f a0 1040 1103).bind fun t138 => (some t138)) = some r := by rw [if_neg (show ¬ (false = true) by decide)] at H; exact H
            clear H
            have H := H1
            clear H1
            replace H := Option.bind_eq_some_iff.mp H
            obtain ⟨t138, A430, H⟩ := H
            replace H : (some t138) = some r := H
            have A43 := Aside0.mk A430
            clear A430
            obtain rfl := Option.some.inj H
            go_enter Tryd.func22, Tryd.ntmps22
            go_wp2_with (first | (go_at_call 23; (with_reducible refine (spec_l1In.calls a0 192 591 false _ A25.out).mono ?_); rintro e w' ⟨rfl, ⟨nd, rfl⟩⟩) | (go_at_call 23; (with_reducible refine (spec_l1In.calls a0 913 969 false _ A39.out).mono ?_); rintro e w' ⟨rfl, ⟨nd, rfl⟩⟩) | (go_at_call 23; (with_reducible refine (spec_l1In.calls a0 1040 1103 t138 _ A43.out).mono ?_); rintro e w' ⟨rfl, ⟨nd, rfl⟩⟩))
            go_ret
            exact ⟨by first | rfl | (simp; done) | (simp [*]; done), by repeat (first | exact Drawn0.refl _ | apply Drawn0.step)⟩
  · rw [if_neg c2] at H
    have c2b0 : decide (65 ≤ a0) = false := decide_eq_false c2
    clear c2
    by_cases c44 : a0 ≥ 97
    · rw [if_pos c44] at H
      have c44b0 : decide (97 ≤ a0) = true := decide_eq_true c44
      clear c44
      by_cases c45 : a0 ≤ 122
      · rw [if_pos c45] at H
        have c45b0 : decide (a0 ≤ 122) = true := decide_eq_true c45
        clear c45
        obtain rfl := Option.some.inj H
        go_enter Tryd.func22, Tryd.ntmps22
        go_wp2
        go_ret
        exact ⟨by first | rfl | (simp; done) | (simp [*]; done), by repeat (first | exact Drawn0.refl _ | apply Drawn0.step)⟩
      · rw [if_neg c45] at H
        have c45b0 : decide (a0 ≤ 122) = false := decide_eq_false c45
        clear c45
        replace H := Option.bind_eq_some_iff.mp H
        obtain ⟨t139, A460, H⟩ := H
        replace H : (if t139 = true then (if a0 = 215 then ((spec_l1In.f a0 913 969).bind fun t140 => (if t140 = true then (if a0 = 930 then ((spec_l1In.f a0 1040 1103).bind fun t141 => (some t141)) else (some true)) else ((spec_l1In.f a0 1040 1103).bind fun t142 => (some t142)))) else (if a0 = 247 then ((spec_l1In.f a0 913 969).bind fun t143 => (if t143 = true then (if a0 = 930 then ((spec_l1In.f a0 1040 1103).bind fun t144 => (some t144)) else (some true)) else ((spec_l1In.f a0 1040 1103).bind fun t145 => (some t145)))) else (some true))) else ((spec_l1In.f a0 913 969).bind fun t146 => (if t146 = true then (if a0 = 930 then ((spec_l1In.f a0 1040 1103).bind fun t147 => (some t147)) else (some true)) else ((spec_l1In.f a0 1040 1103).bind fun t148 => (some t148))))) = some r := H
        have A46 := Aside0.mk A460
        clear A460
        by_cases c47 : t139 = true
        · subst c47
          have H1 : (if a0 = 215 then ((spec_l1In.f a0 913 969).bind fun t140 => (if t140 = true then (if a0 = 930 then ((spec_l1In.f a0 1040 1103).bind fun t141 => (some t141)) else (some true)) else ((spec_l1In.f a0 1040 1103).bind fun t142 => (some t142)))) else (if a0 = 247 then ((spec_l1In.f a0 913 969).bind fun t143 => (if t143 = true then (if a0 = 930 then ((spec_l1In.f a0 1040 1103).bind fun t144 => (some t144)) else (some true)) else ((spec_l1In.f a0 1040 1103).bind fun t145 => (some t145)))) else (some true))) = some r := by rw [if_pos rfl] at H; exact H
          clear H
          have H := H1
          clear H1
          by_cases c48 : a0 = 215
          · rw [if_pos c48] at H
            have c48b0 : (a0 == 215) = true := beq_iff_eq.mpr c48
            have c48b1 : (a0 != 215) = false := bne_eq_false_iff_eq.mpr c48
            clear c48
            replace H := Option.bind_eq_some_iff.mp H
            obtain ⟨t140, A490, H⟩ := H
            replace H : (if t140 = true then (if a0 = 930 then ((spec_l1In.f a0 1040 1103).bind fun t141 => (some t141)) else (some true)) else ((spec_l1In.f a0 1040 1103).bind fun t142 => (some t142))) = some r := H
            have A49 := Aside0.mk A490
            clear A490
            by_cases c50 : t140 = true
            · subst c50
              have H1 : (if a0 = 930 then ((spec_l1In.f a0 1040 1103).bind fun t141 => (some t141)) else (some true)) = some r := by rw [if_pos rfl] at H; exact H
              clear H
              have H := H1
              clear H1
              by_cases c51 : a0 = 930
              · rw [if_pos c51] at H
                have c51b0 : (a0 == 930) = true := beq_iff_eq.mpr c51
                have c51b1 : (a0 != 930) = false := bne_eq_false_iff_eq.mpr c51
                clear c51
                replace H := Option.bind_eq_some_iff.mp H
                obtain ⟨t141, A520, H⟩ := H
                replace H : (some t141) = some r := H
                have A52 := Aside0.mk A520
                clear A520
                obtain rfl := Option.some.inj H
                go_enter Tryd.func22, Tryd.ntmps22
                go_wp2_with (first | (go_at_call 23; (with_reducible refine (spec_l1In.calls a0 192 591 true _ A46.out).mono ?_); rintro e w' ⟨rfl, ⟨nd, rfl⟩⟩) | (go_at_call 23; (with_reducible refine (spec_l1In.calls a0 913 969 true _ A49.out).mono ?_); rintro e w' ⟨rfl, ⟨nd, rfl⟩⟩) | (go_at_call 23; (with_reducible refine (spec_l1In.calls a0 1040 1103 t141 _ A52.out).mono ?_); rintro e w' ⟨rfl, ⟨nd, rfl⟩⟩))
                go_ret
                exact ⟨by first | rfl | (simp; done) | (simp [*]; done), by repeat (first | exact Drawn0.refl _ | apply Drawn0.step)⟩
              · rw [if_neg c51] at H
                have c51b0 : (a0 == 930) = false := beq_eq_false_iff_ne.mpr c51
                have c51b1 : (a0 != 930) = true := bne_iff_ne.mpr c51
                obtain rfl := Option.some.inj H
                go_enter Tryd.func22, Tryd.ntmps22
                go_wp2_with (first | (go_at_call 23; (with_reducible refine (spec_l1In.calls a0 192 591 true _ A46.out).mono ?_); rintro e w' ⟨rfl, ⟨nd, rfl⟩⟩) | (go_at_call 23; (with_reducible refine (spec_l1In.calls a0 913 969 true _ A49.out).mono ?_); rintro e w' ⟨rfl, ⟨nd, rfl⟩⟩))
                go_ret
                exact ⟨by first | rfl | (simp; done) | (simp [*]; done), by repeat (first | exact Drawn0.refl _ | apply Drawn0.step)⟩
            · replace c50 := Bool.eq_false_iff.mpr c50
              subst c50
              have H1 : ((spec_l1In.f a0 1040 1103).bind fun t142 => (some t142)) = some r := by rw [if_neg (show ¬ (false = true) by decide)] at H; exact H
              clear H
              have H := H1
              clear H1
              replace H := Option.bind_eq_some_iff.mp H
              obtain ⟨t142, A530, H⟩ := H
              replace H : (some t142) = some r := H
              have A53 := Aside0.mk A530
              clear A530
              obtain rfl := Option.some.inj H
              go_enter Tryd.func22, Tryd.ntmps22
              go_wp2_with (first | (go_at_call 23; (with_reducible refine (spec_l1In.calls a0 192 591 true _ A46.out).mono ?_); rintro e w' ⟨rfl, ⟨nd, rfl⟩⟩) | (go_at_call 23; (with_reducible refine (spec_l1In.calls a0 913 969 false _ A49.out).mono ?_); rintro e w' ⟨rfl, ⟨nd, rfl⟩⟩) | (go_at_call 23; (with_reducible refine (spec_l1In.calls a0 1040 1103 t142 _ A53.out).mono ?_); rintro e w' ⟨rfl, ⟨nd, rfl⟩⟩))
              go_ret
              exact ⟨by first | rfl | (simp; done) | (simp [*]; done), by repeat (first | exact Drawn0.refl _ | apply Drawn0.step)⟩
          · rw [if_neg c48] at H
            have c48b0 : (a0 == 215) = false := beq_eq_false_iff_ne.mpr c48
            have c48b1 : (a0 != 215) = true := bne_iff_ne.mpr c48
            by_cases c54 : a0 = 247
            · rw [if_pos c54] at H
              have c54b0 : (a0 == 247) = true := beq_iff_eq.mpr c54
              have c54b1 : (a0 != 247) = false := bne_eq_false_iff_eq.mpr c54
              clear c54
              replace H := Option.bind_eq_some_iff.mp H
              obtain ⟨t143, A550, H⟩ := H
              replace H : (if t143 = true then (if a0 = 930 then ((spec_l1In.f a0 1040 1103).bind fun t144 => (some t144)) else (some true)) else ((spec_l1In.f a0 1040 1103).bind fun t145 => (some t145))) = some r := H
              have A55 := Aside0.mk A550
              clear A550
              by_cases c56 : t143 = true
              · subst c56
                have H1 : (if a0 = 930 then ((spec_l1In.f a0 1040 1103).bind fun t144 => (some t144)) else (some true)) = some r := by rw [if_pos rfl] at H; exact H
                clear H
                have H := H1
                clear H1
                by_cases c57 : a0 = 930
                · rw [if_pos c57] at H
                  have c57b0 : (a0 == 930) = true := beq_iff_eq.mpr c57
                  have c57b1 : (a0 != 930) = false := bne_eq_false_iff_eq.mpr c57
                  clear c57
                  replace H := Option.bind_eq_some_iff.mp H
                  obtain ⟨t144, A580, H⟩ := H
                  replace H : (some t144) = some r := H
                  have A58 := Aside0.mk A580
                  clear A580
                  obtain rfl := Option.some.inj H
                  go_enter Tryd.func22, Tryd.ntmps22
                  go_wp2_with (first | (go_at_call 23; (with_reducible refine (spec_l1In.calls a0 192 591 true _ A46.out).mono ?_); rintro e w' ⟨rfl, ⟨nd, rfl⟩⟩) | (go_at_call 23; (with_reducible refine (spec_l1In.calls a0 913 969 true _ A55.out).mono ?_); rintro e w' ⟨rfl, ⟨nd, rfl⟩⟩) | (go_at_call 23; (with_reducible refine (spec_l1In.calls a0 1040 1103 t144 _ A58.out).mono ?_); rintro e w' ⟨rfl, ⟨nd, rfl⟩⟩))
                  go_ret
                  exact ⟨by first | rfl | (simp; done) | (simp [*]; done), by repeat (first | exact Drawn0.refl _ | apply Drawn0.step)⟩
                · rw [if_neg c57] at H
                  have c57b0 : (a0 == 930) = false := beq_eq_false_iff_ne.mpr c57
                  have c57b1 : (a0 != 930) = true := bne_iff_ne.mpr c57
                  obtain rfl := Option.some.inj H
                  go_enter Tryd.func22, Tryd.ntmps22
                  go_wp2_with (first | (go_at_call 23; (with_reducible refine (spec_l1In.calls a0 192 591 true _ A46.out).mono ?_); rintro e w' ⟨rfl, ⟨nd, rfl⟩⟩) | (go_at_call 23; (with_reducible refine (spec_l1In.calls a0 913 969 true _ A55.out).mono ?_); rintro e w' ⟨rfl, ⟨nd, rfl⟩⟩))
                  go_ret
                  exact ⟨by first | rfl | (simp; done) | (simp [*]; done), by repeat (first | exact Drawn0.refl _ | apply Drawn0.step)⟩
              · replace c56 := Bool.eq_false_iff.mpr c56
                subst c56
                have H1 : ((spec_l1In.f a0 1040 1103).bind fun t145 => (some t145)) = some r := by rw [if_neg (show ¬ (false = true) by decide)] at H; exact H
                clear H
                have H := H1
                clear H1
                replace H := Option.bind_eq_some_iff.mp H
                obtain ⟨t145, A590, H⟩ := H
                replace H : (some t145) = some r := H
                have A59 := Aside0.mk A590
                clear A590
                obtain rfl := Option.some.inj H
                go_enter Tryd.func22, Tryd.ntmps22
                go_wp2_with (first | (go_at_call 23; (with_reducible refine (spec_l1In.calls a0 192 591 true _ A46.out).mono ?_); rintro e w' ⟨rfl, ⟨nd, rfl⟩⟩) | (go_at_call 23; (with_reducible refine (spec_l1In.calls a0 913 969 false _ A55.out).mono ?_); rintro e w' ⟨rfl, ⟨nd, rfl⟩⟩) | (go_at_call 23; (with_reducible refine (spec_l1In.calls a0 1040 1103 t145 _ A59.out).mono ?_); rintro e w' ⟨rfl, ⟨nd, rfl⟩⟩))
                go_ret
                exact ⟨by first | rfl | (simp; done) | (simp [*]; done), by repeat (first | exact Drawn0.refl _ | apply Drawn0.step)⟩
            · rw [if_neg c54] at H
              have c54b0 : (a0 == 247) = false := beq_eq_false_iff_ne.mpr c54
              have c54b1 : (a0 != 247) = true := bne_iff_ne.mpr c54
              obtain rfl := Option.some.inj H
              go_enter Tryd.func22, Tryd.ntmps22
              go_wp2_with (first | (go_at_call 23; (with_reducible refine (spec_l1In.calls a0 192 591 true _ A46.out).mono ?_); rintro e w' ⟨rfl, ⟨nd, rfl⟩⟩))
              go_ret
              exact ⟨by first | rfl | (simp; done) | (simp [*]; done), by repeat (first | exact Drawn0.refl _ | apply Drawn0.step)⟩
        · replace c47 := Bool.eq_false_iff.mpr c47
          subst c47
          have H1 : ((spec_l1In.f a0 913 969).bind fun t146 => (if t146 = true then (if a0 = 930 then ((spec_l1In.f a0 1040 1103).bind fun t147 => (some t147)) else (some true)) else ((spec_l1In.f a0 1040 1103).bind fun t148 => (some t148)))) = some r := by rw [if_neg (show ¬ (false = true) by decide)] at H; exact H
          clear H
          have H := H1
          clear H1
          replace H := Option.bind_eq_some_iff.mp H
          obtain ⟨t146, A600, H⟩ := H
          replace H : (if t146 = true then (if a0 = 930 then ((spec_l1In.f a0 1040 1103).bind fun t147 => (some t147)) else (some true)) else ((spec_l1In.f a0 1040 1103).bind fun t148 => (some t148))) = some r := H
          have A60 := Aside0.mk A600
          clear A600
          by_cases c61 : t146 = true
          · subst c61
            have H1 : (if a0 = 930 then ((spec_l1In.f a0 1040 1103).bind fun t147 => (some t147)) else (some true)) = some r := by rw [if_pos rfl] at H; exact H
            clear H
            have H := H1
            clear H1
            by_cases c62 : a0 = 930
            · rw [if_pos c62] at H
              have c62b0 : (a0 == 930) = true := beq_iff_eq.mpr c62
              have c62b1 : (a0 != 930) = false := bne_eq_false_iff_eq.mpr c62
              clear c62
              replace H := Option.bind_eq_some_iff.mp H
              obtain ⟨t147, A630, H⟩ := H
              replace H : (some t147) = some r := H
              have A63 := Aside0.mk A630
              clear A630
              obtain rfl := Option.some.inj H
              go_enter Tryd.func22, Tryd.ntmps22
              go_wp2_with (first | (go_at_call 23; (with_reducible refine (spec_l1In.calls a0 192 591 false _ A46.out).mono ?_); rintro e w' ⟨rfl, ⟨nd, rfl⟩⟩) | (go_at_call 23; (with_reducible refine (spec_l1In.calls a0 913 969 true _ A60.out).mono ?_); rintro e w' ⟨rfl, ⟨nd, rfl⟩⟩) | (go_at_call 23; (with_reducible refine (spec_l1In.calls a0 1040 1103 t147 _ A63.out).mono ?_); rintro e w' ⟨rfl, ⟨nd, rfl⟩⟩))
              go_ret
              exact ⟨by first | rfl | (simp; done) | (simp [*]; done), by repeat (first | exact Drawn0.refl _ | apply Drawn0.step)⟩
            · rw [if_neg c62] at H
              have c62b0 : (a0 == 930) = false := beq_eq_false_iff_ne.mpr c62
              have c62b1 : (a0 != 930) = true := bne_iff_ne.mpr c62
              obtain rfl := Option.some.inj H
              go_enter Tryd.func22, Tryd.ntmps22
              go_wp2_with (first | (go_at_call 23; (with_reducible refine (spec_l1In.calls a0 192 591 false _ A46.out).mono ?_); rintro e w' ⟨rfl, ⟨nd, rfl⟩⟩) | (go_at_call 23; (with_reducible refine (spec_l1In.calls a0 913 969 true _ A60.out).mono ?_); rintro e w' ⟨rfl, ⟨nd, rfl⟩⟩))
              go_ret
              exact ⟨by first | rfl | (simp; done) | (simp [*]; done), by repeat (first | exact Drawn0.refl _ | apply Drawn0.step)⟩
          · replace c61 := Bool.eq_false_iff.mpr c61
            subst c61
            have H1 : ((spec_l1In.f a0 1040 1103).bind fun t148 => (some t148)) = some r := by rw [if_neg (show ¬ (false = true) by decide)] at H; exact H
            clear H
            have H := H1
            clear H1
            replace H := Option.bind_eq_some_iff.mp H
            obtain ⟨t148, A640, H⟩ := H
            replace H : (some t148) = some r := H
            have A64 := Aside0.mk A640
            clear A640
            obtain rfl := Option.some.inj H
            go_enter Tryd.func22, Tryd.ntmps22
            go_wp2_with (first | (go_at_call 23; (with_reducible refine (spec_l1In.calls a0 192 591 false _ A46.out).mono ?_); rintro e w' ⟨rfl, ⟨nd, rfl⟩⟩) | (go_at_call 23; (with_reducible refine (spec_l1In.calls a0 913 969 false _ A60.out).mono ?_); rintro e w' ⟨rfl, ⟨nd, rfl⟩⟩) | (go_at_call 23; (with_reducible refine (spec_l1In.calls a0 1040 1103 t148 _ A64.out).mono ?_); rintro e w' ⟨rfl, ⟨nd, rfl⟩⟩))
            go_ret
            exact ⟨by first | rfl | (simp; done) | (simp [*]; done), by repeat (first | exact Drawn0.refl _ | apply Drawn0.step)⟩
    · rw [if_neg c44] at H
      have c44b0 : decide (97 ≤ a0) = false := decide_eq_false c44
      clear c44
      replace H := Option.bind_eq_some_iff.mp H
      obtain ⟨t149, A650, H⟩ := H
      replace H : (if t149 = true then (if a0 = 215 then ((spec_l1In.f a0 913 969).bind fun t150 => (if t150 = true then (if a0 = 930 then ((spec_l1In.f a0 1040 1103).bind fun t151 => (some t151)) else (some true)) else ((spec_l1In.f a0 1040 1103).bind fun t152 => (some t152)))) else (if a0 = 247 then ((spec_l1In.f a0 913 969).bind fun t153 => (if t153 = true then (if a0 = 930 then ((spec_l1In.f a0 1040 1103).bind fun t154 => (some t154)) else (some true)) else ((spec_l1In.f a0 1040 1103).bind fun t155 => (some t155)))) else (some true))) else ((spec_l1In.f a0 913 969).bind fun t156 => (if t156 = true then (if a0 = 930 then ((spec_l1In.f a0 1040 1103).bind fun t157 => (some t157)) else (some true)) else ((spec_l1In.f a0 1040 1103).bind fun t158 => (some t158))))) = some r := H
      have A65 := Aside0.mk A650
      clear A650
      by_cases c66 : t149 = true
      · subst c66
        have H1 : (if a0 = 215 then ((spec_l1In.f a0 913 969).bind fun t150 => (if t150 = true then (if a0 = 930 then ((spec_l1In.f a0 1040 1103).bind fun t151 => (some t151)) else (some true)) else ((spec_l1In.f a0 1040 1103).bind fun t152 => (some t152)))) else (if a0 = 247 then ((spec_l1In.f a0 913 969).bind fun t153 => (if t153 = true then (if a0 = 930 then ((spec_l1In.f a0 1040 1103).bind fun t154 => (some t154)) else (some true)) else ((spec_l1In.f a0 1040 1103).bind fun t155 => (some t155)))) else (some true))) = some r := by rw [if_pos rfl] at H; exact H
        clear H
        have H := H1
        clear H1
        by_cases c67 : a0 = 215
        · rw [if_pos c67] at H
          have c67b0 : (a0 == 215) = true := beq_iff_eq.mpr c67
          have c67b1 : (a0 != 215) = false := bne_eq_false_iff_eq.mpr c67
          clear c67
          replace H := Option.bind_eq_some_iff.mp H
          obtain ⟨t150, A680, H⟩ := H
          replace H : (if t150 = true then (if a0 = 930 then ((spec_l1In.f a0 1040 1103).bind fun t151 => (some t151)) else (some true)) else ((spec_l1In.f a0 1040 1103).bind fun t152 => (some t152))) = some r := H
          have A68 := Aside0.mk A680
          clear A680
          by_cases c69 : t150 = true
          · subst c69
            have H1 : (if a0 = 930 then ((spec_l1In.f a0 1040 1103).bind fun t151 => (some t151)) else (some true)) = some r := by rw [if_pos rfl] at H; exact H
            clear H
            have H := H1
            clear H1
            by_cases c70 : a0 = 930
            · rw [if_pos c70] at H
              have c70b0 : (a0 == 930) = true := beq_iff_eq.mpr c70
              have c70b1 : (a0 != 930) = false := bne_eq_false_iff_eq.mpr c70
              clear c70
              replace H := Option.bind_eq_some_iff.mp H
              obtain ⟨t151, A710, H⟩ := H
              replace H : (some t151) = some r := H
              have A71 := Aside0.mk A710
              clear A710
              obtain rfl := Option.some.inj H
              go_enter Tryd.func22, Tryd.ntmps22
              go_wp2_with (first | (go_at_call 23; (with_reducible refine (spec_l1In.calls a0 192 591 true _ A65.out).mono ?_); rintro e w' ⟨rfl, ⟨nd, rfl⟩⟩) | (go_at_call 23; (with_reducible refine (spec_l1In.calls a0 913 969 true _ A68.out).mono ?_); rintro e w' ⟨rfl, ⟨nd, rfl⟩⟩) | (go_at_call 23; (with_reducible refine (spec_l1In.calls a0 1040 1103 t151 _ A71.out).mono ?_); rintro e w' ⟨rfl, ⟨nd, rfl⟩⟩))
              go_ret
              exact ⟨by first | rfl | (simp; done) | (simp [*]; done), by repeat (first | exact Drawn0.refl _ | apply Drawn0.step)⟩
            · rw [if_neg c70] at H
              have c70b0 : (a0 == 930) = false := beq_eq_false_iff_ne.mpr c70
              have c70b1 : (a0 != 930) = true := bne_iff_ne.mpr c70
              obtain rfl := Option.some.inj H
              go_enter Tryd.func22, Tryd.ntmps22
              go_wp2_with (first | (go_at_call 23; (with_reducible refine (spec_l1In.calls a0 192 591 true _ A65.out).mono ?_); rintro e w' ⟨rfl, ⟨nd, rfl⟩⟩) | (go_at_call 23; (with_reducible refine (spec_l1In.calls a0 913 969 true _ A68.out).mono ?_); rintro e w' ⟨rfl, ⟨nd, rfl⟩⟩))
              go_ret
              exact ⟨by first | rfl | (simp; done) | (simp [*]; done), by repeat (first | exact Drawn0.refl _ | apply Drawn0.step)⟩
          · replace c69 := Bool.eq_false_iff.mpr c69
            subst c69
            have H1 : ((spec_l1In.f a0 1040 1103).bind fun t152 => (some t152)) = some r := by rw [if_neg (show ¬ (false = true) by decide)] at H; exact H
            clear H
            have H := H1
            clear H1
            replace H := Option.bind_eq_some_iff.mp H
            obtain ⟨t152, A720, H⟩ := H
            replace H : (some t152) = some r := H
            have A72 := Aside0.mk A720
            clear A720
            obtain rfl := Option.some.inj H
            go_enter Tryd.func22, Tryd.ntmps22
            go_wp2_with (first | (go_at_call 23; (with_reducible refine (spec_l1In.calls a0 192 591 true _ A65.out).mono ?_); rintro e w' ⟨rfl, ⟨nd, rfl⟩⟩) | (go_at_call 23; (with_reducible refine (spec_l1In.calls a0 913 969 false _ A68.out).mono ?_); rintro e w' ⟨rfl, ⟨nd, rfl⟩⟩) | (go_at_call 23; (with_reducible refine (spec_l1In.calls a0 1040 1103 t152 _ A72.out).mono ?_); rintro e w' ⟨rfl, ⟨nd, rfl⟩⟩))
            go_ret
            exact ⟨by first | rfl | (simp; done) | (simp [*]; done), by repeat (first | exact Drawn0.refl _ | apply Drawn0.step)⟩
        · rw [if_neg c67] at H
          have c67b0 : (a0 == 215) = false := beq_eq_false_iff_ne.mpr c67
          have c67b1 : (a0 != 215) = true := bne_iff_ne.mpr c67
          by_cases c73 : a0 = 247
          · rw [if_pos c73] at H
            have c73b0 : (a0 == 247) = true := beq_iff_eq.mpr c73
            have c73b1 : (a0 != 247) = false := bne_eq_false_iff_eq.mpr c73
            clear c73
            replace H := Option.bind_eq_some_iff.mp H
            obtain ⟨t153, A740, H⟩ := H
            replace H : (if t153 = true then (if a0 = 930 then ((spec_l1In.f a0 1040 1103).bind fun t154 => (some t154)) else (some true)) else ((spec_l1In.f a0 1040 1103).bind fun t155 => (some t155))) = some r := H
            have A74 := Aside0.mk A740
            clear A740
            by_cases c75 : t153 = true
            · subst c75
              have H1 : (if a0 = 930 then ((spec_l1In.f a0 1040 1103).bind fun t154 => (some t154)) else (some true)) = some r := by rw [if_pos rfl] at H; exact H
              clear H
              have H := H1
              clear H1
              by_cases c76 : a0 = 930
              · rw [if_pos c76] at H
                have c76b0 : (a0 == 930) = true := beq_iff_eq.mpr c76
                have c76b1 : (a0 != 930) = false := bne_eq_false_iff_eq.mpr c76
                clear c76
                replace H := Option.bind_eq_some_iff.mp H
                obtain ⟨t154, A770, H⟩ := H
                replace H : (some t154) = some r := H
                have A77 := Aside0.mk A770
                clear A770
                obtain rfl := Option.some.inj H
                go_enter Tryd.func22, Tryd.ntmps22
                go_wp2_with (first | (go_at_call 23; (with_reducible refine (spec_l1In.calls a0 192 591 true _ A65.out).mono ?_); rintro e w' ⟨rfl, ⟨nd, rfl⟩⟩) | (go_at_call 23; (with_reducible refine (spec_l1In.calls a0 913 969 true _ A74.out).mono ?_); rintro e w' ⟨rfl, ⟨nd, rfl⟩⟩) | (go_at_call 23; (with_reducible refine (spec_l1In.calls a0 1040 1103 t154 _ A77.out).mono ?_); rintro e w' ⟨rfl, ⟨nd, rfl⟩⟩))
                go_ret
                exact ⟨by first | rfl | (simp; done) | (simp [*]; done), by repeat (first | exact Drawn0.refl _ | apply Drawn0.step)⟩
              · rw [if_neg c76] at H
                have c76b0 : (a0 == 930) = false := beq_eq_false_iff_ne.mpr c76
                have c76b1 : (a0 != 930) = true := bne_iff_ne.mpr c76
                obtain rfl := Option.some.inj H
                go_enter Tryd.func22, Tryd.ntmps22
                go_wp2_with (first | (go_at_call 23; (with_reducible refine (spec_l1In.calls a0 192 591 true _ A65.out).mono ?_); rintro e w' ⟨rfl, ⟨nd, rfl⟩⟩) | (go_at_call 23; (with_reducible refine (spec_l1In.calls a0 913 969 true _ A74.out).mono ?_); rintro e w' ⟨rfl, ⟨nd, rfl⟩⟩))
                go_ret
                exact ⟨by first | rfl | (simp; done) | (simp [*]; done), by repeat (first | exact Drawn0.refl _ | apply Drawn0.step)⟩
            · replace c75 := Bool.eq_false_iff.mpr c75
              subst c75
              have H1 : ((spec_l1In.f a0 1040 1103).bind fun t155 => (some t155)) = some r := by rw [if_neg (show ¬ (false = true) by decide)] at H; exact H
              clear H
              have H := H1
              clear H1
              replace H := Option.bind_eq_some_iff.mp H
              obtain ⟨t155, A780, H⟩ := H
              replace H : (some t155) = some r := H
              have A78 := Aside0.mk A780
              clear A780
              obtain rfl := Option.some.inj H
              go_enter Tryd.func22, Tryd.ntmps22
              go_wp2_with (first | (go_at_call 23; (with_reducible refine (spec_l1In.calls a0 192 591 true _ A65.out).mono ?_); rintro e w' ⟨rfl, ⟨nd, rfl⟩⟩) | (go_at_call 23; (with_reducible refine (spec_l1In.calls a0 913 969 false _ A74.out).mono ?_); rintro e w' ⟨rfl, ⟨nd, rfl⟩⟩) | (go_at_call 23; (with_reducible refine (spec_l1In.calls a0 1040 1103 t155 _ A78.out).mono ?_); rintro e w' ⟨rfl, ⟨nd, rfl⟩⟩))
              go_ret
              exact ⟨by first | rfl | (simp; done) | (simp [*]; done), by repeat (first | exact Drawn0.refl _ | apply Drawn0.step)⟩
          · rw [if_neg c73] at H
            have c73b0 : (a0 == 247) = false := beq_eq_false_iff_ne.mpr c73
            have c73b1 : (a0 != 247) = true := bne_iff_ne.mpr c73
            obtain rfl := Option.some.inj H
            go_enter Tryd.func22, Tryd.ntmps22
            go_wp2_with (first | (go_at_call 23; (with_reducible refine (spec_l1In.calls a0 192 591 true _ A65.out).mono ?_); rintro e w' ⟨rfl, ⟨nd, rfl⟩⟩))
            go_ret
            exact ⟨by first | rfl | (simp; done) | (simp [*]; done), by repeat (first | exact Drawn0.refl _ | apply Drawn0.step)⟩
      · replace c66 := Bool.eq_false_iff.mpr c66
        subst c66
        have H1 : ((spec_l1In.f a0 913 969).bind fun t156 => (if t156 = true then (if a0 = 930 then ((spec_l1In.f a0 1040 1103).bind fun t157 => (some t157)) else (some true)) else ((spec_l1In.f a0 1040 1103).bind fun t158 => (some t158)))) = some r := by rw [if_neg (show ¬ (false = true) by decide)] at H; exact H
        clear H
        have H := H1
        clear H1
        replace H := Option.bind_eq_some_iff.mp H
        obtain ⟨t156, A790, H⟩ := H
        replace H : (if t156 = true then (if a0 = 930 then ((spec_l1In.f a0 1040 1103).bind fun t157 => (some t157)) else (some true)) else ((spec_l1In.f a0 1040 1103).bind fun t158 => (some t158))) = some r := H
        have A79 := Aside0.mk A790
        clear A790
        by_cases c80 : t156 = true
        · subst c80
          have H1 : (if a0 = 930 then ((spec_l1In.f a0 1040 1103).bind fun t157 => (some t157)) else (some true)) = some r := by rw [if_pos rfl] at H; exact H
          clear H
          have H := H1
          clear H1
          by_cases c81 : a0 = 930
          · rw [if_pos c81] at H
            have c81b0 : (a0 == 930) = true := beq_iff_eq.mpr c81
            have c81b1 : (a0 != 930) = false := bne_eq_false_iff_eq.mpr c81
            clear c81
            replace H := Option.bind_eq_some_iff.mp H
            obtain ⟨t157, A820, H⟩ := H
            replace H : (some t157) = some r := H
            have A82 := Aside0.mk A820
            clear A820
            obtain rfl := Option.some.inj H
            go_enter Tryd.func22, Tryd.ntmps22
            go_wp2_with (first | (go_at_call 23; (with_reducible refine (spec_l1In.calls a0 192 591 false _ A65.out).mono ?_); rintro e w' ⟨rfl, ⟨nd, rfl⟩⟩) | (go_at_call 23; (with_reducible refine (spec_l1In.calls a0 913 969 true _ A79.out).mono ?_); rintro e w' ⟨rfl, ⟨nd, rfl⟩⟩) | (go_at_call 23; (with_reducible refine (spec_l1In.calls a0 1040 1103 t157 _ A82.out).mono ?_); rintro e w' ⟨rfl, ⟨nd, rfl⟩⟩))
            go_ret
            exact ⟨by first | rfl | (simp; done) | (simp [*]; done), by repeat (first | exact Drawn0.refl _ | apply Drawn0.step)⟩
          · rw [if_neg c81] at H
            have c81b0 : (a0 == 930) = false := beq_eq_false_iff_ne.mpr c81
            have c81b1 : (a0 != 930) = true := bne_iff_ne.mpr c81
            obtain rfl := Option.some.inj H
            go_enter Tryd.func22, Tryd.ntmps22
            go_wp2_with (first | (go_at_call 23; (with_reducible refine (spec_l1In.calls a0 192 591 false _ A65.out).mono ?_); rintro e w' ⟨rfl, ⟨nd, rfl⟩⟩) | (go_at_call 23; (with_reducible refine (spec_l1In.calls a0 913 969 true _ A79.out).mono ?_); rintro e w' ⟨rfl, ⟨nd, rfl⟩⟩))
            go_ret
            exact ⟨by first | rfl | (simp; done) | (simp [*]; done), by repeat (first | exact Drawn0.refl _ | apply Drawn0.step)⟩
        · replace c80 := Bool.eq_false_iff.mpr c80
          subst c80
          have H1 : ((spec_l1In.f a0 1040 1103).bind fun t158 => (some t158)) = some r := by rw [if_neg (show ¬ (false = true) by decide)] at H; exact H
          clear H
          have H := H1
          clear H1
          replace H := Option.bind_eq_some_iff.mp H
          obtain ⟨t158, A830, H⟩ := H
          replace H : (some t158) = some r := H
          have A83 := Aside0.mk A830
          clear A830
          obtain rfl := Option.some.inj H
          go_enter Tryd.func22, Tryd.ntmps22
          go_wp2_with (first | (go_at_call 23; (with_reducible refine (spec_l1In.calls a0 192 591 false _ A65.out).mono ?_); rintro e w' ⟨rfl, ⟨nd, rfl⟩⟩) | (go_at_call 23; (with_reducible refine (spec_l1In.calls a0 913 969 false _ A79.out).mono ?_); rintro e w' ⟨rfl, ⟨nd, rfl⟩⟩) | (go_at_call 23; (with_reducible refine (spec_l1In.calls a0 1040 1103 t158 _ A83.out).mono ?_); rintro e w' ⟨rfl, ⟨nd, rfl⟩⟩))
          go_ret
          exact ⟨by first | rfl | (simp; done) | (simp [*]; done), by repeat (first | exact Drawn0.refl _ | apply Drawn0.step)⟩

end Go.Proofs.YtjenfcocegbmdaaDoor.MFnExactFind19
