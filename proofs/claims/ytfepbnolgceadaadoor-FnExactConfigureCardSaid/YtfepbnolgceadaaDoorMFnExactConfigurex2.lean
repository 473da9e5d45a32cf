/- The functions that the law FnExactConfigure reaches, as plain functions, and that the code comes to them. Begun as a text of the print over stubs; turned by wip/handstub.py and wip/mend.py. -/
import Derived.Test.YtfepbnolgceadaaDoorMFnExactConfigurex0
import Derived.Test.YtfepbnolgceadaaDoorMFnExactConfigurex1
namespace Go.Proofs.YtfepbnolgceadaaDoor.MFnExactConfigure
open Go.RowKit Go.Proofs.YtfepbnolgceadaaDoorW.PrintWords Go.Proofs.YtfepbnolgceadaaDoorW.PrintLast Go.Proofs.YtfepbnolgceadaaDoorW.PrintMore
attribute [local go_sem] max2_int min2_int max_two min_two max_three min_three max_four min_four   -- for this text's walks alone
set_option linter.unusedVariables false
set_option linter.unusedSimpArgs false

/-! ### spec_l19Letter: function 66 -/
def spec_l19Letter.f (a0 : Int) : Option (Bool) := if a0 ≥ 65 then (if a0 ≤ 90 then (some true) else (if a0 ≥ 97 then (if a0 ≤ 122 then (some true) else ((spec_l1In.f a0 192 591).bind fun t101 => (if t101 = true then (if a0 = 215 then ((spec_l1In.f a0 913 969).bind fun t102 => (if t102 = true then (if a0 = 930 then ((spec_l1In.f a0 1040 1103).bind fun t103 => (some t103)) else (some true)) else ((spec_l1In.f a0 1040 1103).bind fun t104 => (some t104)))) else (if a0 = 247 then ((spec_l1In.f a0 913 969).bind fun t105 => (if t105 = true then (if a0 = 930 then ((spec_l1In.f a0 1040 1103).bind fun t106 => (some t106)) else (some true)) else ((spec_l1In.f a0 1040 1103).bind fun t107 => (some t107)))) else (some true))) else ((spec_l1In.f a0 913 969).bind fun t108 => (if t108 = true then (if a0 = 930 then ((spec_l1In.f a0 1040 1103).bind fun t109 => (some t109)) else (some true)) else ((spec_l1In.f a0 1040 1103).bind fun t110 => (some t110))))))) else ((spec_l1In.f a0 192 591).bind fun t111 => (if t111 = true then (if a0 = 215 then ((spec_l1In.f a0 913 969).bind fun t112 => (if t112 = true then (if a0 = 930 then ((spec_l1In.f a0 1040 1103).bind fun t113 => (some t113)) else (some true)) else ((spec_l1In.f a0 1040 1103).bind fun t114 => (some t114)))) else (if a0 = 247 then ((spec_l1In.f a0 913 969).bind fun t115 => (if t115 = true then (if a0 = 930 then ((spec_l1In.f a0 1040 1103).bind fun t116 => (some t116)) else (some true)) else ((spec_l1In.f a0 1040 1103).bind fun t117 => (some t117)))) else (some true))) else ((spec_l1In.f a0 913 969).bind fun t118 => (if t118 = true then (if a0 = 930 then ((spec_l1In.f a0 1040 1103).bind fun t119 => (some t119)) else (some true)) else ((spec_l1In.f a0 1040 1103).bind fun t120 => (some t120)))))))) else (if a0 ≥ 97 then (if a0 ≤ 122 then (some true) else ((spec_l1In.f a0 192 591).bind fun t121 => (if t121 = true then (if a0 = 215 then ((spec_l1In.f a0 913 969).bind fun t122 => (if t122 = true then (if a0 = 930 then ((spec_l1In.f a0 1040 1103).bind fun t123 => (some t123)) else (some true)) else ((spec_l1In.f a0 1040 1103).bind fun t124 => (some t124)))) else (if a0 = 247 then ((spec_l1In.f a0 913 969).bind fun t125 => (if t125 = true then (if a0 = 930 then ((spec_l1In.f a0 1040 1103).bind fun t126 => (some t126)) else (some true)) else ((spec_l1In.f a0 1040 1103).bind fun t127 => (some t127)))) else (some true))) else ((spec_l1In.f a0 913 969).bind fun t128 => (if t128 = true then (if a0 = 930 then ((spec_l1In.f a0 1040 1103).bind fun t129 => (some t129)) else (some true)) else ((spec_l1In.f a0 1040 1103).bind fun t130 => (some t130))))))) else ((spec_l1In.f a0 192 591).bind fun t131 => (if t131 = true then (if a0 = 215 then ((spec_l1In.f a0 913 969).bind fun t132 => (if t132 = true then (if a0 = 930 then ((spec_l1In.f a0 1040 1103).bind fun t133 => (some t133)) else (some true)) else ((spec_l1In.f a0 1040 1103).bind fun t134 => (some t134)))) else (if a0 = 247 then ((spec_l1In.f a0 913 969).bind fun t135 => (if t135 = true then (if a0 = 930 then ((spec_l1In.f a0 1040 1103).bind fun t136 => (some t136)) else (some true)) else ((spec_l1In.f a0 1040 1103).bind fun t137 => (some t137)))) else (some true))) else ((spec_l1In.f a0 913 969).bind fun t138 => (if t138 = true then (if a0 = 930 then ((spec_l1In.f a0 1040 1103).bind fun t139 => (some t139)) else (some true)) else ((spec_l1In.f a0 1040 1103).bind fun t140 => (some t140)))))))
set_option maxHeartbeats 8000000 in
set_option maxRecDepth 100000 in
theorem spec_l19Letter.calls (a0 : Int) (r : Bool) (w : World) (h : spec_l19Letter.f a0 = some r) :
  Calls Tryd.prog 66 #[.int .i64 a0] w fun e w' => e = .returned (.bool r) ∧ Drawn0 w w' := by
 have H : (if a0 ≥ 65 then (if a0 ≤ 90 then (some true) else (if a0 ≥ 97 then (if a0 ≤ 122 then (some true) else ((spec_l1In.f a0 192 591).bind fun t101 => (if t101 = true then (if a0 = 215 then ((spec_l1In.f a0 913 969).bind fun t102 => (if t102 = true then (if a0 = 930 then ((spec_l1In.f a0 1040 1103).bind fun t103 => (some t103)) else (some true)) else ((spec_l1In.f a0 1040 1103).bind fun t104 => (some t104)))) else (if a0 = 247 then ((spec_l1In.f a0 913 969).bind fun t105 => (if t105 = true then (if a0 = 930 then ((spec_l1In.f a0 1040 1103).bind fun t106 => (some t106)) else (some true)) else ((spec_l1In.f a0 1040 1103).bind fun t107 => (some t107)))) else (some true))) else ((spec_l1In.f a0 913 969).bind fun t108 => (if t108 = true then (if a0 = 930 then ((spec_l1In.f a0 1040 1103).bind fun t109 => (some t109)) else (some true)) else ((spec_l1In.f a0 1040 1103).bind fun t110 => (some t110))))))) else ((spec_l1In.f a0 192 591).bind fun t111 => (if t111 = true then (if a0 = 215 then ((spec_l1In.f a0 913 969).bind fun t112 => (if t112 = true then (if a0 = 930 then ((spec_l1In.f a0 1040 1103).bind fun t113 => (some t113)) else (some true)) else ((spec_l1In.f a0 1040 1103).bind fun t114 => (some t114)))) else (if a0 = 247 then ((spec_l1In.f a0 913 969).bind fun t115 => (if t115 = true then (if a0 = 930 then ((spec_l1In.f a0 1040 1103).bind fun t116 => (some t116)) else (some true)) else ((spec_l1In.f a0 1040 1103).bind fun t117 => (some t117)))) else (some true))) else ((spec_l1In.f a0 913 969).bind fun t118 => (if t118 = true then (if a0 = 930 then ((spec_l1In.f a0 1040 1103).bind fun t119 => (some t119)) else (some true)) else ((spec_l1In.f a0 1040 1103).bind fun t120 => (some t120)))))))) else (if a0 ≥ 97 then (if a0 ≤ 122 then (some true) else ((spec_l1In.f a0 192 591).bind fun t121 => (if t121 = true then (if a0 = 215 then ((spec_l1In.f a0 913 969).bind fun t122 => (if t122 = true then (if a0 = 930 then ((spec_l1In.f a0 1040 1103).bind fun t123 => (some t123)) else (some true)) else ((spec_l1In.f a0 1040 1103).bind fun t124 => (some t124)))) else (if a0 = 247 then ((spec_l1In.f a0 913 969).bind fun t125 => (if t125 = true then (if a0 = 930 then ((spec_l1In.f a0 1040 1103).bind fun t126 => (some t126)) else (some true)) else ((spec_l1In.f a0 1040 1103).bind fun t127 => (some t127)))) else (some true))) else ((spec_l1In.f a0 913 969).bind fun t128 => (if t128 = true then (if a0 = 930 then ((spec_l1In.f a0 1040 1103).bind fun t129 => (some t129)) else (some true)) else ((spec_l1In.f a0 1040 1103).bind fun t130 => (some t130))))))) else ((spec_l1In.f a0 192 591).bind fun t131 => (if t131 = true then (if a0 = 215 then ((spec_l1In.f a0 913 969).bind fun t132 => (if t132 = true then (if a0 = 930 then ((spec_l1In.f a0 1040 1103).bind fun t133 => (some t133)) else (some true)) else ((spec_l1In.f a0 1040 1103).bind fun t134 => (some t134)))) else (if a0 = 247 then ((spec_l1In.f a0 913 969).bind fun t135 => (if t135 = true then (if a0 = 930 then ((spec_l1In.f a0 1040 1103).bind fun t136 => (some t136)) else (some true)) else ((spec_l1In.f a0 1040 1103).bind fun t137 => (some t137)))) else (some true))) else ((spec_l1In.f a0 913 969).bind fun t138 => (if t138 = true then (if a0 = 930 then ((spec_l1In.f a0 1040 1103).bind fun t139 => (some t139)) else (some true)) else ((spec_l1In.f a0 1040 1103).bind fun t140 => (some t140)))))))) = some r := h
 clear h
 by_cases c2 : a0 ≥ 65
 ·rw [if_pos c2] at H
  have c2b0 : decide (65 ≤ a0) = true := decide_eq_true c2
  clear c2
  by_cases c3 : a0 ≤ 90
  ·rw [if_pos c3] at H
   have c3b0 : decide (a0 ≤ 90) = true := decide_eq_true c3
   clear c3
   obtain rfl := Option.some.inj H
   go_enter Tryd.func66, Tryd.ntmps66
   go_wp2
   go_ret
   exact ⟨by first | rfl | (simp; done) | (simp [*]; done), by repeat (first | exact Drawn0.refl _ | apply Drawn0.step)⟩
  ·rw [if_neg c3] at H
   have c3b0 : decide (a0 ≤ 90) = false := decide_eq_false c3
   clear c3
   by_cases c4 : a0 ≥ 97
   ·rw [if_pos c4] at H
    have c4b0 : decide (97 ≤ a0) = true := decide_eq_true c4
    clear c4
    by_cases c5 : a0 ≤ 122
    ·rw [if_pos c5] at H
     have c5b0 : decide (a0 ≤ 122) = true := decide_eq_true c5
     clear c5
     obtain rfl := Option.some.inj H
     go_enter Tryd.func66, Tryd.ntmps66
     go_wp2
     go_ret
     exact ⟨by first | rfl | (simp; done) | (simp [*]; done), by repeat (first | exact Drawn0.refl _ | apply Drawn0.step)⟩
    ·rw [if_neg c5] at H
     have c5b0 : decide (a0 ≤ 122) = false := decide_eq_false c5
     clear c5
     replace H := Option.bind_eq_some_iff.mp H
     obtain ⟨t101, A60, H⟩ := H
     replace H : (if t101 = true then (if a0 = 215 then ((spec_l1In.f a0 913 969).bind fun t102 => (if t102 = true then (if a0 = 930 then ((spec_l1In.f a0 1040 1103).bind fun t103 => (some t103)) else (some true)) else ((spec_l1In.f a0 1040 1103).bind fun t104 => (some t104)))) else (if a0 = 247 then ((spec_l1In.f a0 913 969).bind fun t105 => (if t105 = true then (if a0 = 930 then ((spec_l1In.f a0 1040 1103).bind fun t106 => (some t106)) else (some true)) else ((spec_l1In.f a0 1040 1103).bind fun t107 => (some t107)))) else (some true))) else ((spec_l1In.f a0 913 969).bind fun t108 => (if t108 = true then (if a0 = 930 then ((spec_l1In.f a0 1040 1103).bind fun t109 => (some t109)) else (some true)) else ((spec_l1In.f a0 1040 1103).bind fun t110 => (some t110))))) = some r := H
     have A6 := Aside0.mk A60
     clear A60
     by_cases c7 : t101 = true
     ·subst c7
      have H1 : (if a0 = 215 then ((spec_l1In.f a0 913 969).bind fun t102 => (if t102 = true then (if a0 = 930 then ((spec_l1In.f a0 1040 1103).bind fun t103 => (some t103)) else (some true)) else ((spec_l1In.f a0 1040 1103).bind fun t104 => (some t104)))) else (if a0 = 247 then ((spec_l1In.f a0 913 969).bind fun t105 => (if t105 = true then (if a0 = 930 then ((spec_l1In.f a0 1040 1103).bind fun t106 => (some t106)) else (some true)) else ((spec_l1In.f a0 1040 1103).bind fun t107 => (some t107)))) else (some true))) = some r := by rw [if_pos rfl] at H; exact H
      clear H
      have H := H1
      clear H1
      by_cases c8 : a0 = 215
      ·rw [if_pos c8] at H
       have c8b0 : (a0 == 215) = true := beq_iff_eq.mpr c8
       have c8b1 : (a0 != 215) = false := bne_eq_false_iff_eq.mpr c8
       clear c8
       replace H := Option.bind_eq_some_iff.mp H
       obtain ⟨t102, A90, H⟩ := H
       replace H : (if t102 = true then (if a0 = 930 then ((spec_l1In.f a0 1040 1103).bind fun t103 => (some t103)) else (some true)) else ((spec_l1In.f a0 1040 1103).bind fun t104 => (some t104))) = some r := H
       have A9 := Aside0.mk A90
       clear A90
       by_cases c10 : t102 = true
       ·subst c10
        have H1 : (if a0 = 930 then ((spec_l1In.f a0 1040 1103).bind fun t103 => (some t103)) else (some true)) = some r := by rw [if_pos rfl] at H; exact H
        clear H
        have H := H1
        clear H1
        by_cases c11 : a0 = 930
        ·rw [if_pos c11] at H
         have c11b0 : (a0 == 930) = true := beq_iff_eq.mpr c11
         have c11b1 : (a0 != 930) = false := bne_eq_false_iff_eq.mpr c11
         clear c11
         replace H := Option.bind_eq_some_iff.mp H
         obtain ⟨t103, A120, H⟩ := H
         replace H : (some t103) = some r := H
         have A12 := Aside0.mk A120
         clear A120
         obtain rfl := Option.some.inj H
         go_enter Tryd.func66, Tryd.ntmps66
         go_wp2_with (first | (go_at_call 67; (with_reducible refine (spec_l1In.calls a0 192 591 true _ A6.out).mono ?_); rintro e w' ⟨rfl, ⟨nd, rfl⟩⟩) | (go_at_call 67; (with_reducible refine (spec_l1In.calls a0 913 969 true _ A9.out).mono ?_); rintro e w' ⟨rfl, ⟨nd, rfl⟩⟩) | (go_at_call 67; (with_reducible refine (spec_l1In.calls a0 1040 1103 t103 _ A12.out).mono ?_); rintro e w' ⟨rfl, ⟨nd, rfl⟩⟩))
         go_ret
         exact ⟨by first | rfl | (simp; done) | (simp [*]; done), by repeat (first | exact Drawn0.refl _ | apply Drawn0.step)⟩
        ·rw [if_neg c11] at H
         have c11b0 : (a0 == 930) = false := beq_eq_false_iff_ne.mpr c11
         have c11b1 : (a0 != 930) = true := bne_iff_ne.mpr c11
         obtain rfl := Option.some.inj H
         go_enter Tryd.func66, Tryd.ntmps66
         go_wp2_with (first | (go_at_call 67; (with_reducible refine (spec_l1In.calls a0 192 591 true _ A6.out).mono ?_); rintro e w' ⟨rfl, ⟨nd, rfl⟩⟩) | (go_at_call 67; (with_reducible refine (spec_l1In.calls a0 913 969 true _ A9.out).mono ?_); rintro e w' ⟨rfl, ⟨nd, rfl⟩⟩))
         go_ret
         exact ⟨by first | rfl | (simp; done) | (simp [*]; done), by repeat (first | exact Drawn0.refl _ | apply Drawn0.step)⟩
       ·replace c10 := Bool.eq_false_iff.mpr c10
        subst c10
        have H1 : ((spec_l1In.f a0 1040 1103).bind fun t104 => (some t104)) = some r := by rw [if_neg (show ¬ (false = true) by decide)] at H; exact H
        clear H
        have H := H1
        clear H1
        replace H := Option.bind_eq_some_iff.mp H
        obtain ⟨t104, A130, H⟩ := H
        replace H : (some t104) = some r := H
        have A13 := Aside0.mk A130
        clear A130
        obtain rfl := Option.some.inj H
        go_enter Tryd.func66, Tryd.ntmps66
        go_wp2_with (first | (go_at_call 67; (with_reducible refine (spec_l1In.calls a0 192 591 true _ A6.out).mono ?_); rintro e w' ⟨rfl, ⟨nd, rfl⟩⟩) | (go_at_call 67; (with_reducible refine (spec_l1In.calls a0 913 969 false _ A9.out).mono ?_); rintro e w' ⟨rfl, ⟨nd, rfl⟩⟩) | (go_at_call 67; (with_reducible refine (spec_l1In.calls a0 1040 1103 t104 _ A13.out).mono ?_); rintro e w' ⟨rfl, ⟨nd, rfl⟩⟩))
        go_ret
        exact ⟨by first | rfl | (simp; done) | (simp [*]; done), by repeat (first | exact Drawn0.refl _ | apply Drawn0.step)⟩
      ·rw [if_neg c8] at H
       have c8b0 : (a0 == 215) = false := beq_eq_false_iff_ne.mpr c8
       have c8b1 : (a0 != 215) = true := bne_iff_ne.mpr c8
       by_cases c14 : a0 = 247
       ·rw [if_pos c14] at H
        have c14b0 : (a0 == 247) = true := beq_iff_eq.mpr c14
        have c14b1 : (a0 != 247) = false := bne_eq_false_iff_eq.mpr c14
        clear c14
        replace H := Option.bind_eq_some_iff.mp H
        obtain ⟨t105, A150, H⟩ := H
        replace H : (if t105 = true then (if a0 = 930 then ((spec_l1In.f a0 1040 1103).bind fun t106 => (some t106)) else (some true)) else ((spec_l1In.f a0 1040 1103).bind fun t107 => (some t107))) = some r := H
        have A15 := Aside0.mk A150
        clear A150
        by_cases c16 : t105 = true
        ·subst c16
         have H1 : (if a0 = 930 then ((spec_l1In.f a0 1040 1103).bind fun t106 => (some t106)) else (some true)) = some r := by rw [if_pos rfl] at H; exact H
         clear H
         have H := H1
         clear H1
         by_cases c17 : a0 = 930
         ·rw [if_pos c17] at H
          have c17b0 : (a0 == 930) = true := beq_iff_eq.mpr c17
          have c17b1 : (a0 != 930) = false := bne_eq_false_iff_eq.mpr c17
          clear c17
          replace H := Option.bind_eq_some_iff.mp H
          obtain ⟨t106, A180, H⟩ := H
          replace H : (some t106) = some r := H
          have A18 := Aside0.mk A180
          clear A180
          obtain rfl := Option.some.inj H
          go_enter Tryd.func66, Tryd.ntmps66
          go_wp2_with (first | (go_at_call 67; (with_reducible refine (spec_l1In.calls a0 192 591 true _ A6.out).mono ?_); rintro e w' ⟨rfl, ⟨nd, rfl⟩⟩) | (go_at_call 67; (with_reducible refine (spec_l1In.calls a0 913 969 true _ A15.out).mono ?_); rintro e w' ⟨rfl, ⟨nd, rfl⟩⟩) | (go_at_call 67; (with_reducible refine (spec_l1In.calls a0 1040 1103 t106 _ A18.out).mono ?_); rintro e w' ⟨rfl, ⟨nd, rfl⟩⟩))
          go_ret
          exact ⟨by first | rfl | (simp; done) | (simp [*]; done), by repeat (first | exact Drawn0.refl _ | apply Drawn0.step)⟩
         ·rw [if_neg c17] at H
          have c17b0 : (a0 == 930) = false := beq_eq_false_iff_ne.mpr c17
          have c17b1 : (a0 != 930) = true := bne_iff_ne.mpr c17
          obtain rfl := Option.some.inj H
          go_enter Tryd.func66, Tryd.ntmps66
          go_wp2_with (first | (go_at_call 67; (with_reducible refine (spec_l1In.calls a0 192 591 true _ A6.out).mono ?_); rintro e w' ⟨rfl, ⟨nd, rfl⟩⟩) | (go_at_call 67; (with_reducible refine (spec_l1In.calls a0 913 969 true _ A15.out).mono ?_); rintro e w' ⟨rfl, ⟨nd, rfl⟩⟩))
          go_ret
          exact ⟨by first | rfl | (simp; done) | (simp [*]; done), by repeat (first | exact Drawn0.refl _ | apply Drawn0.step)⟩
        ·replace c16 := Bool.eq_false_iff.mpr c16
         subst c16
         have H1 : ((spec_l1In.f a0 1040 1103).bind fun t107 => (some t107)) = some r := by rw [if_neg (show ¬ (false = true) by decide)] at H; exact H
         clear H
         have H := H1
         clear H1
         replace H := Option.bind_eq_some_iff.mp H
         obtain ⟨t107, A190, H⟩ := H
         replace H : (some t107) = some r := H
         have A19 := Aside0.mk A190
         clear A190
         obtain rfl := Option.some.inj H
         go_enter Tryd.func66, Tryd.ntmps66
         go_wp2_with (first | (go_at_call 67; (with_reducible refine (spec_l1In.calls a0 192 591 true _ A6.out).mono ?_); rintro e w' ⟨rfl, ⟨nd, rfl⟩⟩) | (go_at_call 67; (with_reducible refine (spec_l1In.calls a0 913 969 false _ A15.out).mono ?_); rintro e w' ⟨rfl, ⟨nd, rfl⟩⟩) | (go_at_call 67; (with_reducible refine (spec_l1In.calls a0 1040 1103 t107 _ A19.out).mono ?_); rintro e w' ⟨rfl, ⟨nd, rfl⟩⟩))
         go_ret
         exact ⟨by first | rfl | (simp; done) | (simp [*]; done), by repeat (first | exact Drawn0.refl _ | apply Drawn0.step)⟩
       ·rw [if_neg c14] at H
        have c14b0 : (a0 == 247) = false := beq_eq_false_iff_ne.mpr c14
        have c14b1 : (a0 != 247) = true := bne_iff_ne.mpr c14
        obtain rfl := Option.some.inj H
        go_enter Tryd.func66, Tryd.ntmps66
        go_wp2_with (first | (go_at_call 67; (with_reducible refine (spec_l1In.calls a0 192 591 true _ A6.out).mono ?_); rintro e w' ⟨rfl, ⟨nd, rfl⟩⟩))
        go_ret
        exact ⟨by first | rfl | (simp; done) | (simp [*]; done), by repeat (first | exact Drawn0.refl _ | apply Drawn0.step)⟩
     ·replace c7 := Bool.eq_false_iff.mpr c7
      subst c7
      have H1 : ((spec_l1In.f a0 913 969).bind fun t108 => (if t108 = true then (if a0 = 930 then ((spec_l1In.f a0 1040 1103).bind fun t109 => (some t109)) else (some true)) else ((spec_l1In.f a0 1040 1103).bind fun t110 => (some t110)))) = some r := by rw [if_neg (show ¬ (false = true) by decide)] at H; exact H
      clear H
      have H := H1
      clear H1
      replace H := Option.bind_eq_some_iff.mp H
      obtain ⟨t108, A200, H⟩ := H
      replace H : (if t108 = true then (if a0 = 930 then ((spec_l1In.f a0 1040 1103).bind fun t109 => (some t109)) else (some true)) else ((spec_l1In.f a0 1040 1103).bind fun t110 => (some t110))) = some r := H
      have A20 := Aside0.mk A200
      clear A200
      by_cases c21 : t108 = true
      ·subst c21
       have H1 : (if a0 = 930 then ((spec_l1In.f a0 1040 1103).bind fun t109 => (some t109)) else (some true)) = some r := by rw [if_pos rfl] at H; exact H
       clear H
       have H := H1
       clear H1
       by_cases c22 : a0 = 930
       ·rw [if_pos c22] at H
        have c22b0 : (a0 == 930) = true := beq_iff_eq.mpr c22
        have c22b1 : (a0 != 930) = false := bne_eq_false_iff_eq.mpr c22
        clear c22
        replace H := Option.bind_eq_some_iff.mp H
        obtain ⟨t109, A230, H⟩ := H
        replace H : (some t109) = some r := H
        have A23 := Aside0.mk A230
        clear A230
        obtain rfl := Option.some.inj H
        go_enter Tryd.func66, Tryd.ntmps66
        go_wp2_with (first | (go_at_call 67; (with_reducible refine (spec_l1In.calls a0 192 591 false _ A6.out).mono ?_); rintro e w' ⟨rfl, ⟨nd, rfl⟩⟩) | (go_at_call 67; (with_reducible refine (spec_l1In.calls a0 913 969 true _ A20.out).mono ?_); rintro e w' ⟨rfl, ⟨nd, rfl⟩⟩) | (go_at_call 67; (with_reducible refine (spec_l1In.calls a0 1040 1103 t109 _ A23.out).mono ?_); rintro e w' ⟨rfl, ⟨nd, rfl⟩⟩))
        go_ret
        exact ⟨by first | rfl | (simp; done) | (simp [*]; done), by repeat (first | exact Drawn0.refl _ | apply Drawn0.step)⟩
       ·rw [if_neg c22] at H
        have c22b0 : (a0 == 930) = false := beq_eq_false_iff_ne.mpr c22
        have c22b1 : (a0 != 930) = true := bne_iff_ne.mpr c22
        obtain rfl := Option.some.inj H
        go_enter Tryd.func66, Tryd.ntmps66
        go_wp2_with (first | (go_at_call 67; (with_reducible refine (spec_l1In.calls a0 192 591 false _ A6.out).mono ?_); rintro e w' ⟨rfl, ⟨nd, rfl⟩⟩) | (go_at_call 67; (with_reducible refine (spec_l1In.calls a0 913 969 true _ A20.out).mono ?_); rintro e w' ⟨rfl, ⟨nd, rfl⟩⟩))
        go_ret
        exact ⟨by first | rfl | (simp; done) | (simp [*]; done), by repeat (first | exact Drawn0.refl _ | apply Drawn0.step)⟩
      ·replace c21 := Bool.eq_false_iff.mpr c21
       subst c21
       have H1 : ((spec_l1In.f a0 1040 1103).bind fun t110 => (some t110)) = some r := by rw [if_neg (show ¬ (false = true) by decide)] at H; exact H
       clear H
       have H := H1
       clear H1
       replace H := Option.bind_eq_some_iff.mp H
       obtain ⟨t110, A240, H⟩ := H
       replace H : (some t110) = some r := H
       have A24 := Aside0.mk A240
       clear A240
       obtain rfl := Option.some.inj H
       go_enter Tryd.func66, Tryd.ntmps66
       go_wp2_with (first | (go_at_call 67; (with_reducible refine (spec_l1In.calls a0 192 591 false _ A6.out).mono ?_); rintro e w' ⟨rfl, ⟨nd, rfl⟩⟩) | (go_at_call 67; (with_reducible refine (spec_l1In.calls a0 913 969 false _ A20.out).mono ?_); rintro e w' ⟨rfl, ⟨nd, rfl⟩⟩) | (go_at_call 67; (with_reducible refine (spec_l1In.calls a0 1040 1103 t110 _ A24.out).mono ?_); rintro e w' ⟨rfl, ⟨nd, rfl⟩⟩))
       go_ret
       exact ⟨by first | rfl | (simp; done) | (simp [*]; done), by repeat (first | exact Drawn0.refl _ | apply Drawn0.step)⟩
   ·rw [if_neg c4] at H
    have c4b0 : decide (97 ≤ a0) = false := decide_eq_false c4
    clear c4
    replace H := Option.bind_eq_some_iff.mp H
    obtain ⟨t111, A250, H⟩ := H
    replace H : (if t111 = true then (if a0 = 215 then ((spec_l1In.f a0 913 969).bind fun t112 => (if t112 = true then (if a0 = 930 then ((spec_l1In.f a0 1040 1103).bind fun t113 => (some t113)) else (some true)) else ((spec_l1In.f a0 1040 1103).bind fun t114 => (some t114)))) else (if a0 = 247 then ((spec_l1In.f a0 913 969).bind fun t115 => (if t115 = true then (if a0 = 930 then ((spec_l1In.f a0 1040 1103).bind fun t116 => (some t116)) else (some true)) else ((spec_l1In.f a0 1040 1103).bind fun t117 => (some t117)))) else (some true))) else ((spec_l1In.f a0 913 969).bind fun t118 => (if t118 = true then (if a0 = 930 then ((spec_l1In.f a0 1040 1103).bind fun t119 => (some t119)) else (some true)) else ((spec_l1In.f a0 1040 1103).bind fun t120 => (some t120))))) = some r := H
    have A25 := Aside0.mk A250
    clear A250
    by_cases c26 : t111 = true
    ·subst c26
     have H1 : (if a0 = 215 then ((spec_l1In.f a0 913 969).bind fun t112 => (if t112 = true then (if a0 = 930 then ((spec_l1In.f a0 1040 1103).bind fun t113 => (some t113)) else (some true)) else ((spec_l1In.f a0 1040 1103).bind fun t114 => (some t114)))) else (if a0 = 247 then ((spec_l1In.f a0 913 969).bind fun t115 => (if t115 = true then (if a0 = 930 then ((spec_l1In.f a0 1040 1103).bind fun t116 => (some t116)) else (some true)) else ((spec_l1In.f a0 1040 1103).bind fun t117 => (some t117)))) else (some true))) = some r := by rw [if_pos rfl] at H; exact H
     clear H
     have H := H1
     clear H1
     by_cases c27 : a0 = 215
     ·rw [if_pos c27] at H
      have c27b0 : (a0 == 215) = true := beq_iff_eq.mpr c27
      have c27b1 : (a0 != 215) = false := bne_eq_false_iff_eq.mpr c27
      clear c27
      replace H := Option.bind_eq_some_iff.mp H
      obtain ⟨t112, A280, H⟩ := H
      replace H : (if t112 = true then (if a0 = 930 then ((spec_l1In.f a0 1040 1103).bind fun t113 => (some t113)) else (some true)) else ((spec_l1In.f a0 1040 1103).bind fun t114 => (some t114))) = some r := H
      have A28 := Aside0.mk A280
      clear A280
      by_cases c29 : t112 = true
      ·subst c29
       have H1 : (if a0 = 930 then ((spec_l1In.f a0 1040 1103).bind fun t113 => (some t113)) else (some true)) = some r := by rw [if_pos rfl] at H; exact H
       clear H
       have H := H1
       clear H1
       by_cases c30 : a0 = 930
       ·rw [if_pos c30] at H
        have c30b0 : (a0 == 930) = true := beq_iff_eq.mpr c30
        have c30b1 : (a0 != 930) = false := bne_eq_false_iff_eq.mpr c30
        clear c30
        replace H := Option.bind_eq_some_iff.mp H
        obtain ⟨t113, A310, H⟩ := H
        replace H : (some t113) = some r := H
        have A31 := Aside0.mk A310
        clear A310
        obtain rfl := Option.some.inj H
        go_enter Tryd.func66, Tryd.ntmps66
        go_wp2_with (first | (go_at_call 67; (with_reducible refine (spec_l1In.calls a0 192 591 true _ A25.out).mono ?_); rintro e w' ⟨rfl, ⟨nd, rfl⟩⟩) | (go_at_call 67; (with_reducible refine (spec_l1In.calls a0 913 969 true _ A28.out).mono ?_); rintro e w' ⟨rfl, ⟨nd, rfl⟩⟩) | (go_at_call 67; (with_reducible refine (spec_l1In.calls a0 1040 1103 t113 _ A31.out).mono ?_); rintro e w' ⟨rfl, ⟨nd, rfl⟩⟩))
        go_ret
        exact ⟨by first | rfl | (simp; done) | (simp [*]; done), by repeat (first | exact Drawn0.refl _ | apply Drawn0.step)⟩
       ·rw [if_neg c30] at H
        have c30b0 : (a0 == 930) = false := beq_eq_false_iff_ne.mpr c30
        have c30b1 : (a0 != 930) = true := bne_iff_ne.mpr c30
        obtain rfl := Option.some.inj H
        go_enter Tryd.func66, Tryd.ntmps66
        go_wp2_with (first | (go_at_call 67; (with_reducible refine (spec_l1In.calls a0 192 591 true _ A25.out).mono ?_); rintro e w' ⟨rfl, ⟨nd, rfl⟩⟩) | (go_at_call 67; (with_reducible refine (spec_l1In.calls a0 913 969 true _ A28.out).mono ?_); rintro e w' ⟨rfl, ⟨nd, rfl⟩⟩))
        go_ret
        exact ⟨by first | rfl | (simp; done) | (simp [*]; done), by repeat (first | exact Drawn0.refl _ | apply Drawn0.step)⟩
      ·replace c29 := Bool.eq_false_iff.mpr c29
       subst c29
       have H1 : ((spec_l1In.f a0 1040 1103).bind fun t114 => (some t114)) = some r := by rw [if_neg (show ¬ (false = true) by decide)] at H; exact H
       clear H
       have H := H1
       clear H1
       replace H := Option.bind_eq_some_iff.mp H
       obtain ⟨t114, A320, H⟩ := H
       replace H : (some t114) = some r := H
       have A32 := Aside0.mk A320
       clear A320
       obtain rfl := Option.some.inj H
       go_enter Tryd.func66, Tryd.ntmps66
       go_wp2_with (first | (go_at_call 67; (with_reducible refine (spec_l1In.calls a0 192 591 true _ A25.out).mono ?_); rintro e w' ⟨rfl, ⟨nd, rfl⟩⟩) | (go_at_call 67; (with_reducible refine (spec_l1In.calls a0 913 969 false _ A28.out).mono ?_); rintro e w' ⟨rfl, ⟨nd, rfl⟩⟩) | (go_at_call 67; (with_reducible refine (spec_l1In.calls a0 1040 1103 t114 _ A32.out).mono ?_); rintro e w' ⟨rfl, ⟨nd, rfl⟩⟩))
       go_ret
       exact ⟨by first | rfl | (simp; done) | (simp [*]; done), by repeat (first | exact Drawn0.refl _ | apply Drawn0.step)⟩
     ·rw [if_neg c27] at H
      have c27b0 : (a0 == 215) = false := beq_eq_false_iff_ne.mpr c27
      have c27b1 : (a0 != 215) = true := bne_iff_ne.mpr c27
      by_cases c33 : a0 = 247
      ·rw [if_pos c33] at H
       have c33b0 : (a0 == 247) = true := beq_iff_eq.mpr c33
       have c33b1 : (a0 != 247) = false := bne_eq_false_iff_eq.mpr c33
       clear c33
       replace H := Option.bind_eq_some_iff.mp H
       obtain ⟨t115, A340, H⟩ := H
       replace H : (if t115 = true then (if a0 = 930 then ((spec_l1In.f a0 1040 1103).bind fun t116 => (some t116)) else (some true)) else ((spec_l1In.f a0 1040 1103).bind fun t117 => (some t117))) = some r := H
       have A34 := Aside0.mk A340
       clear A340
       by_cases c35 : t115 = true
       ·subst c35
        have H1 : (if a0 = 930 then ((spec_l1In.f a0 1040 1103).bind fun t116 => (some t116)) else (some true)) = some r := by rw [if_pos rfl] at H; exact H
        clear H
        have H := H1
        clear H1
        by_cases c36 : a0 = 930
        ·rw [if_pos c36] at H
         have c36b0 : (a0 == 930) = true := beq_iff_eq.mpr c36
         have c36b1 : (a0 != 930) = false := bne_eq_false_iff_eq.mpr c36
         clear c36
         replace H := Option.bind_eq_some_iff.mp H
         obtain ⟨t116, A370, H⟩ := H
         replace H : (some t116) = some r := H
         have A37 := Aside0.mk A370
         clear A370
         obtain rfl := Option.some.inj H
         go_enter Tryd.func66, Tryd.ntmps66
         go_wp2_with (first | (go_at_call 67; (with_reducible refine (spec_l1In.calls a0 192 591 true _ A25.out).mono ?_); rintro e w' ⟨rfl, ⟨nd, rfl⟩⟩) | (go_at_call 67; (with_reducible refine (spec_l1In.calls a0 913 969 true _ A34.out).mono ?_); rintro e w' ⟨rfl, ⟨nd, rfl⟩⟩) | (go_at_call 67; (with_reducible refine (spec_l1In.calls a0 1040 1103 t116 _ A37.out).mono ?_); rintro e w' ⟨rfl, ⟨nd, rfl⟩⟩))
         go_ret
         exact ⟨by first | rfl | (simp; done) | (simp [*]; done), by repeat (first | exact Drawn0.refl _ | apply Drawn0.step)⟩
        ·rw [if_neg c36] at H
         have c36b0 : (a0 == 930) = false := beq_eq_false_iff_ne.mpr c36
         have c36b1 : (a0 != 930) = true := bne_iff_ne.mpr c36
         obtain rfl := Option.some.inj H
         go_enter Tryd.func66, Tryd.ntmps66
         go_wp2_with (first | (go_at_call 67; (with_reducible refine (spec_l1In.calls a0 192 591 true _ A25.out).mono ?_); rintro e w' ⟨rfl, ⟨nd, rfl⟩⟩) | (go_at_call 67; (with_reducible refine (spec_l1In.calls a0 913 969 true _ A34.out).mono ?_); rintro e w' ⟨rfl, ⟨nd, rfl⟩⟩))
         go_ret
         exact ⟨by first | rfl | (simp; done) | (simp [*]; done), by repeat (first | exact Drawn0.refl _ | apply Drawn0.step)⟩
       ·replace c35 := Bool.eq_false_iff.mpr c35
        subst c35
        have H1 : ((spec_l1In.f a0 1040 1103).bind fun t117 => (some t117)) = some r := by rw [if_neg (show ¬ (false = true) by decide)] at H; exact H
        clear H
        have H := H1
        clear H1
        replace H := Option.bind_eq_some_iff.mp H
        obtain ⟨t117, A380, H⟩ := H
        replace H : (some t117) = some r := H
        have A38 := Aside0.mk A380
        clear A380
        obtain rfl := Option.some.inj H
        go_enter Tryd.func66, Tryd.ntmps66
        go_wp2_with (first | (go_at_call 67; (with_reducible refine (spec_l1In.calls a0 192 591 true _ A25.out).mono ?_); rintro e w' ⟨rfl, ⟨nd, rfl⟩⟩) | (go_at_call 67; (with_reducible refine (spec_l1In.calls a0 913 969 false _ A34.out).mono ?_); rintro e w' ⟨rfl, ⟨nd, rfl⟩⟩) | (go_at_call 67; (with_reducible refine (spec_l1In.calls a0 1040 1103 t117 _ A38.out).mono ?_); rintro e w' ⟨rfl, ⟨nd, rfl⟩⟩))
        go_ret
        exact ⟨by first | rfl | (simp; done) | (simp [*]; done), by repeat (first | exact Drawn0.refl _ | apply Drawn0.step)⟩
      ·rw [if_neg c33] at H
       have c33b0 : (a0 == 247) = false := beq_eq_false_iff_ne.mpr c33
       have c33b1 : (a0 != 247) = true := bne_iff_ne.mpr c33
       obtain rfl := Option.some.inj H
       go_enter Tryd.func66, Tryd.ntmps66
       go_wp2_with (first | (go_at_call 67; (with_reducible refine (spec_l1In.calls a0 192 591 true _ A25.out).mono ?_); rintro e w' ⟨rfl, ⟨nd, rfl⟩⟩))
       go_ret
       exact ⟨by first | rfl | (simp; done) | (simp [*]; done), by repeat (first | exact Drawn0.refl _ | apply Drawn0.step)⟩
    ·replace c26 := Bool.eq_false_iff.mpr c26
     subst c26
     have H1 : ((spec_l1In.f a0 913 969).bind fun t118 => (if t118 = true then (if a0 = 930 then ((spec_l1In.f a0 1040 1103).bind fun t119 => (some t119)) else (some true)) else ((spec_l1In.f a0 1040 1103).bind fun t120 => (some t120)))) = some r := by rw [if_neg (show ¬ (false = true) by decide)] at H; exact H
     clear H
     have H := H1
     clear H1
     replace H := Option.bind_eq_some_iff.mp H
     obtain ⟨t118, A390, H⟩ := H
     replace H : (if t118 = true then (if a0 = 930 then ((spec_l1In.f a0 1040 1103).bind fun t119 => (some t119)) else (some true)) else ((spec_l1In.f a0 1040 1103).bind fun t120 => (some t120))) = some r := H
     have A39 := Aside0.mk A390
     clear A390
     by_cases c40 : t118 = true
     ·subst c40
      have H1 : (if a0 = 930 then ((spec_l1In.f a0 1040 1103).bind fun t119 => (some t119)) else (some true)) = some r := by rw [if_pos rfl] at H; exact H
      clear H
      have H := H1
      clear H1
      by_cases c41 : a0 = 930
      ·rw [if_pos c41] at H
       have c41b0 : (a0 == 930) = true := beq_iff_eq.mpr c41
       have c41b1 : (a0 != 930) = false := bne_eq_false_iff_eq.mpr c41
       clear c41
       replace H := Option.bind_eq_some_iff.mp H
       obtain ⟨t119, A420, H⟩ := H
       replace H : (some t119) = some r := H
       have A42 := Aside0.mk A420
       clear A420
       obtain rfl := Option.some.inj H
       go_enter Tryd.func66, Tryd.ntmps66
       go_wp2_with (first | (go_at_call 67; (with_reducible refine (spec_l1In.calls a0 192 591 false _ A25.out).mono ?_); rintro e w' ⟨rfl, ⟨nd, rfl⟩⟩) | (go_at_call 67; (with_reducible refine (spec_l1In.calls a0 913 969 true _ A39.out).mono ?_); rintro e w' ⟨rfl, ⟨nd, rfl⟩⟩) | (go_at_call 67; (with_reducible refine (spec_l1In.calls a0 1040 1103 t119 _ A42.out).mono ?_); rintro e w' ⟨rfl, ⟨nd, rfl⟩⟩))
       go_ret
       exact ⟨by first | rfl | (simp; done) | (simp [*]; done), by repeat (first | exact Drawn0.refl _ | apply Drawn0.step)⟩
      ·rw [if_neg c41] at H
       have c41b0 : (a0 == 930) = false := beq_eq_false_iff_ne.mpr c41
       have c41b1 : (a0 != 930) = true := bne_iff_ne.mpr c41
       obtain rfl := Option.some.inj H
       go_enter Tryd.func66, Tryd.ntmps66
       go_wp2_with (first | (go_at_call 67; (with_reducible refine (spec_l1In.calls a0 192 591 false _ A25.out).mono ?_); rintro e w' ⟨rfl, ⟨nd, rfl⟩⟩) | (go_at_call 67; (with_reducible refine (spec_l1In.calls a0 913 969 true _ A39.out).mono ?_); rintro e w' ⟨rfl, ⟨nd, rfl⟩⟩))
       go_ret
       exact ⟨by first | rfl | (simp; done) | (simp [*]; done), by repeat (first | exact Drawn0.refl _ | apply Drawn0.step)⟩
     ·replace c40 := Bool.eq_false_iff.mpr c40
      subst c40
      have H1 : ((spec_l1In.f a0 1040 1103).bind fun t120 => (some t120)) = some r := by rw [if_neg (show ¬ (false = true) by decide)] at H; exact H
      clear H
      have H := H1
      clear H1
      replace H := Option.bind_eq_some_iff.mp H
      obtain ⟨t120, A430, H⟩ := H
      replace H : (some t120) = some r := H
      have A43 := Aside0.mk A430
      clear A430
      obtain rfl := Option.some.inj H
      go_enter Tryd.func66, Tryd.ntmps66
      go_wp2_with (first | (go_at_call 67; (with_reducible refine (spec_l1In.calls a0 192 591 false _ A25.out).mono ?_); rintro e w' ⟨rfl, ⟨nd, rfl⟩⟩) | (go_at_call 67; (with_reducible refine (spec_l1In.calls a0 913 969 false _ A39.out).mono ?_); rintro e w' ⟨rfl, ⟨nd, rfl⟩⟩) | (go_at_call 67; (with_reducible refine (spec_l1In.calls a0 1040 1103 t120 _ A43.out).mono ?_); rintro e w' ⟨rfl, ⟨nd, rfl⟩⟩))
      go_ret
      exact ⟨by first | rfl | (simp; done) | (simp [*]; done), by repeat (first | exact Drawn0.refl _ | apply Drawn0.step)⟩
 ·rw [if_neg c2] at H
  have c2b0 : decide (65 ≤ a0) = false := decide_eq_false c2
  clear c2
  by_cases c44 : a0 ≥ 97
  ·rw [if_pos c44] at H
   have c44b0 : decide (97 ≤ a0) = true := decide_eq_true c44
   clear c44
   by_cases c45 : a0 ≤ 122
   ·rw [if_pos c45] at H
    have c45b0 : decide (a0 ≤ 122) = true := decide_eq_true c45
    clear c45
    obtain rfl := Option.some.inj H
    go_enter Tryd.func66, Tryd.ntmps66
    go_wp2
    go_ret
    exact ⟨by first | rfl | (simp; done) | (simp [*]; done), by repeat (first | exact Drawn0.refl _ | apply Drawn0.step)⟩
   ·rw [if_neg c45] at H
    have c45b0 : decide (a0 ≤ 122) = false := decide_eq_false c45
    clear c45
    replace H := Option.bind_eq_some_iff.mp H
    obtain ⟨t121, A460, H⟩ := H
    replace H : (if t121 = true then (if a0 = 215 then ((spec_l1In.f a0 913 969).bind fun t122 => (if t122 = true then (if a0 = 930 then ((spec_l1In.f a0 1040 1103).bind fun t123 => (some t123)) else (some true)) else ((spec_l1In.f a0 1040 1103).bind fun t124 => (some t124)))) else (if a0 = 247 then ((spec_l1In.f a0 913 969).bind fun t125 => (if t125 = true then (if a0 = 930 then ((spec_l1In.f a0 1040 1103).bind fun t126 => (some t126)) else (some true)) else ((spec_l1In.f a0 1040 1103).bind fun t127 => (some t127)))) else (some true))) else ((spec_l1In.f a0 913 969).bind fun t128 => (if t128 = true then (if a0 = 930 then ((spec_l1In.f a0 1040 1103).bind fun t129 => (some t129)) else (some true)) else ((spec_l1In.f a0 1040 1103).bind fun t130 => (some t130))))) = some r := H
    have A46 := Aside0.mk A460
    clear A460
    by_cases c47 : t121 = true
    ·subst c47
     have H1 : (if a0 = 215 then ((spec_l1In.f a0 913 969).bind fun t122 => (if t122 = true then (if a0 = 930 then ((spec_l1In.f a0 1040 1103).bind fun t123 => (some t123)) else (some true)) else ((spec_l1In.f a0 1040 1103).bind fun t124 => (some t124)))) else (if a0 = 247 then ((spec_l1In.f a0 913 969).bind fun t125 => (if t125 = true then (if a0 = 930 then ((spec_l1In.f a0 1040 1103).bind fun t126 => (some t126)) else (some true)) else ((spec_l1In.f a0 1040 1103).bind fun t127 => (some t127)))) else (some true))) = some r := by rw [if_pos rfl] at H; exact H
     clear H
     have H := H1
     clear H1
     by_cases c48 : a0 = 215
     ·rw [if_pos c48] at H
      have c48b0 : (a0 == 215) = true := beq_iff_eq.mpr c48
      have c48b1 : (a0 != 215) = false := bne_eq_false_iff_eq.mpr c48
      clear c48
      replace H := Option.bind_eq_some_iff.mp H
      obtain ⟨t122, A490, H⟩ := H
      replace H : (if t122 = true then (if a0 = 930 then ((spec_l1In.f a0 1040 1103).bind fun t123 => (some t123)) else (some true)) else ((spec_l1In.f a0 1040 1103).bind fun t124 => (some t124))) = some r := H
      have A49 := Aside0.mk A490
      clear A490
      by_cases c50 : t122 = true
      ·subst c50
       have H1 : (if a0 = 930 then ((spec_l1In.f a0 1040 1103).bind fun t123 => (some t123)) else (some true)) = some r := by rw [if_pos rfl] at H; exact H
       clear H
       have H := H1
       clear H1
       by_cases c51 : a0 = 930
       ·rw [if_pos c51] at H
        have c51b0 : (a0 == 930) = true := beq_iff_eq.mpr c51
        have c51b1 : (a0 != 930) = false := bne_eq_false_iff_eq.mpr c51
        clear c51
        replace H := Option.bind_eq_some_iff.mp H
        obtain ⟨t123, A520, H⟩ := H
        replace H : (some t123) = some r := H
        have A52 := Aside0.mk A520
        clear A520
        obtain rfl := Option.some.inj H
        go_enter Tryd.func66, Tryd.ntmps66
        go_wp2_with (first | (go_at_call 67; (with_reducible refine (spec_l1In.calls a0 192 591 true _ A46.out).mono ?_); rintro e w' ⟨rfl, ⟨nd, rfl⟩⟩) | (go_at_call 67; (with_reducible refine (spec_l1In.calls a0 913 969 true _ A49.out).mono ?_); rintro e w' ⟨rfl, ⟨nd, rfl⟩⟩) | (go_at_call 67; (with_reducible refine (spec_l1In.calls a0 1040 1103 t123 _ A52.out).mono ?_); rintro e w' ⟨rfl, ⟨nd, rfl⟩⟩))
        go_ret
        exact ⟨by first | rfl | (simp; done) | (simp [*]; done), by repeat (first | exact Drawn0.refl _ | apply Drawn0.step)⟩
       ·rw [if_neg c51] at H
        have c51b0 : (a0 == 930) = false := beq_eq_false_iff_ne.mpr c51
        have c51b1 : (a0 != 930) = true := bne_iff_ne.mpr c51
        obtain rfl := Option.some.inj H
        go_enter Tryd.func66, Tryd.ntmps66
        go_wp2_with (first | (go_at_call 67; (with_reducible refine (spec_l1In.calls a0 192 591 true _ A46.out).mono ?_); rintro e w' ⟨rfl, ⟨nd, rfl⟩⟩) | (go_at_call 67; (with_reducible refine (spec_l1In.calls a0 913 969 true _ A49.out).mono ?_); rintro e w' ⟨rfl, ⟨nd, rfl⟩⟩))
        go_ret
        exact ⟨by first | rfl | (simp; done) | (simp [*]; done), by repeat (first | exact Drawn0.refl _ | apply Drawn0.step)⟩
      ·replace c50 := Bool.eq_false_iff.mpr c50
       subst c50
       have H1 : ((spec_l1In.f a0 1040 1103).bind fun t124 => (some t124)) = some r := by rw [if_neg (show ¬ (false = true) by decide)] at H; exact H
       clear H
       have H := H1
       clear H1
       replace H := Option.bind_eq_some_iff.mp H
       obtain ⟨t124, A530, H⟩ := H
       replace H : (some t124) = some r := H
       have A53 := Aside0.mk A530
       clear A530
       obtain rfl := Option.some.inj H
       go_enter Tryd.func66, Tryd.ntmps66
       go_wp2_with (first | (go_at_call 67; (with_reducible refine (spec_l1In.calls a0 192 591 true _ A46.out).mono ?_); rintro e w' ⟨rfl, ⟨nd, rfl⟩⟩) | (go_at_call 67; (with_reducible refine (spec_l1In.calls a0 913 969 false _ A49.out).mono ?_); rintro e w' ⟨rfl, ⟨nd, rfl⟩⟩) | (go_at_call 67; (with_reducible refine (spec_l1In.calls a0 1040 1103 t124 _ A53.out).mono ?_); rintro e w' ⟨rfl, ⟨nd, rfl⟩⟩))
       go_ret
       exact ⟨by first | rfl | (simp; done) | (simp [*]; done), by repeat (first | exact Drawn0.refl _ | apply Drawn0.step)⟩
     ·rw [if_neg c48] at H
      have c48b0 : (a0 == 215) = false := beq_eq_false_iff_ne.mpr c48
      have c48b1 : (a0 != 215) = true := bne_iff_ne.mpr c48
      by_cases c54 : a0 = 247
      ·rw [if_pos c54] at H
       have c54b0 : (a0 == 247) = true := beq_iff_eq.mpr c54
       have c54b1 : (a0 != 247) = false := bne_eq_false_iff_eq.mpr c54
       clear c54
       replace H := Option.bind_eq_some_iff.mp H
       obtain ⟨t125, A550, H⟩ := H
       replace H : (if t125 = true then (if a0 = 930 then ((spec_l1In.f a0 1040 1103).bind fun t126 => (some t126)) else (some true)) else ((spec_l1In.f a0 1040 1103).bind fun t127 => (some t127))) = some r := H
       have A55 := Aside0.mk A550
       clear A550
       by_cases c56 : t125 = true
       ·subst c56
        have H1 : (if a0 = 930 then ((spec_l1In.f a0 1040 1103).bind fun t126 => (some t126)) else (some true)) = some r := by rw [if_pos rfl] at H; exact H
        clear H
        have H := H1
        clear H1
        by_cases c57 : a0 = 930
        ·rw [if_pos c57] at H
         have c57b0 : (a0 == 930) = true := beq_iff_eq.mpr c57
         have c57b1 : (a0 != 930) = false := bne_eq_false_iff_eq.mpr c57
         clear c57
         replace H := Option.bind_eq_some_iff.mp H
         obtain ⟨t126, A580, H⟩ := H
         replace H : (some t126) = some r := H
         have A58 := Aside0.mk A580
         clear A580
         obtain rfl := Option.some.inj H
         go_enter Tryd.func66, Tryd.ntmps66
         go_wp2_with (first | (go_at_call 67; (with_reducible refine (spec_l1In.calls a0 192 591 true _ A46.out).mono ?_); rintro e w' ⟨rfl, ⟨nd, rfl⟩⟩) | (go_at_call 67; (with_reducible refine (spec_l1In.calls a0 913 969 true _ A55.out).mono ?_); rintro e w' ⟨rfl, ⟨nd, rfl⟩⟩) | (go_at_call 67; (with_reducible refine (spec_l1In.calls a0 1040 1103 t126 _ A58.out).mono ?_); rintro e w' ⟨rfl, ⟨nd, rfl⟩⟩))
         go_ret
         exact ⟨by first | rfl | (simp; done) | (simp [*]; done), by repeat (first | exact Drawn0.refl _ | apply Drawn0.step)⟩
        ·rw [if_neg c57] at H
         have c57b0 : (a0 == 930) = false := beq_eq_false_iff_ne.mpr c57
         have c57b1 : (a0 != 930) = true := bne_iff_ne.mpr c57
         obtain rfl := Option.some.inj H
         go_enter Tryd.func66, Tryd.ntmps66
         go_wp2_with (first | (go_at_call 67; (with_reducible refine (spec_l1In.calls a0 192 591 true _ A46.out).mono ?_); rintro e w' ⟨rfl, ⟨nd, rfl⟩⟩) | (go_at_call 67; (with_reducible refine (spec_l1In.calls a0 913 969 true _ A55.out).mono ?_); rintro e w' ⟨rfl, ⟨nd, rfl⟩⟩))
         go_ret
         exact ⟨by first | rfl | (simp; done) | (simp [*]; done), by repeat (first | exact Drawn0.refl _ | apply Drawn0.step)⟩
       ·replace c56 := Bool.eq_false_iff.mpr c56
        subst c56
        have H1 : ((spec_l1In.f a0 1040 1103).bind fun t127 => (some t127)) = some r := by rw [if_neg (show ¬ (false = true) by decide)] at H; exact H
        clear H
        have H := H1
        clear H1
        replace H := Option.bind_eq_some_iff.mp H
        obtain ⟨t127, A590, H⟩ := H
        replace H : (some t127) = some r := H
        have A59 := Aside0.mk A590
        clear A590
        obtain rfl := Option.some.inj H
        go_enter Tryd.func66, Tryd.ntmps66
        go_wp2_with (first | (go_at_call 67; (with_reducible refine (spec_l1In.calls a0 192 591 true _ A46.out).mono ?_); rintro e w' ⟨rfl, ⟨nd, rfl⟩⟩) | (go_at_call 67; (with_reducible refine (spec_l1In.calls a0 913 969 false _ A55.out).mono ?_); rintro e w' ⟨rfl, ⟨nd, rfl⟩⟩) | (go_at_call 67; (with_reducible refine (spec_l1In.calls a0 1040 1103 t127 _ A59.out).mono ?_); rintro e w' ⟨rfl, ⟨nd, rfl⟩⟩))
        go_ret
        exact ⟨by first | rfl | (simp; done) | (simp [*]; done), by repeat (first | exact Drawn0.refl _ | apply Drawn0.step)⟩
      ·rw [if_neg c54] at H
       have c54b0 : (a0 == 247) = false := beq_eq_false_iff_ne.mpr c54
       have c54b1 : (a0 != 247) = true := bne_iff_ne.mpr c54
       obtain rfl := Option.some.inj H
       go_enter Tryd.func66, Tryd.ntmps66
       go_wp2_with (first | (go_at_call 67; (with_reducible refine (spec_l1In.calls a0 192 591 true _ A46.out).mono ?_); rintro e w' ⟨rfl, ⟨nd, rfl⟩⟩))
       go_ret
       exact ⟨by first | rfl | (simp; done) | (simp [*]; done), by repeat (first | exact Drawn0.refl _ | apply Drawn0.step)⟩
    ·replace c47 := Bool.eq_false_iff.mpr c47
     subst c47
     have H1 : ((spec_l1In.f a0 913 969).bind fun t128 => (if t128 = true then (if a0 = 930 then ((spec_l1In.f a0 1040 1103).bind fun t129 => (some t129)) else (some true)) else ((spec_l1In.f a0 1040 1103).bind fun t130 => (some t130)))) = some r := by rw [if_neg (show ¬ (false = true) by decide)] at H; exact H
     clear H
     have H := H1
     clear H1
     replace H := Option.bind_eq_some_iff.mp H
     obtain ⟨t128, A600, H⟩ := H
     replace H : (if t128 = true then (if a0 = 930 then ((spec_l1In.f a0 1040 1103).bind fun t129 => (some t129)) else (some true)) else ((spec_l1In.f a0 1040 1103).bind fun t130 => (some t130))) = some r := H
     have A60 := Aside0.mk A600
     clear A600
     by_cases c61 : t128 = true
     ·subst c61
      have H1 : (if a0 = 930 then ((spec_l1In.f a0 1040 1103).bind fun t129 => (some t129)) else (some true)) = some r := by rw [if_pos rfl] at H; exact H
      clear H
      have H := H1
      clear H1
      by_cases c62 : a0 = 930
      ·rw [if_pos c62] at H
       have c62b0 : (a0 == 930) = true := beq_iff_eq.mpr c62
       have c62b1 : (a0 != 930) = false := bne_eq_false_iff_eq.mpr c62
       clear c62
       replace H := Option.bind_eq_some_iff.mp H
       obtain ⟨t129, A630, H⟩ := H
       replace H : (some t129) = some r := H
       have A63 := Aside0.mk A630
       clear A630
       obtain rfl := Option.some.inj H
       go_enter Tryd.func66, Tryd.ntmps66
       go_wp2_with (first | (go_at_call 67; (with_reducible refine (spec_l1In.calls a0 192 591 false _ A46.out).mono ?_); rintro e w' ⟨rfl, ⟨nd, rfl⟩⟩) | (go_at_call 67; (with_reducible refine (spec_l1In.calls a0 913 969 true _ A60.out).mono ?_); rintro e w' ⟨rfl, ⟨nd, rfl⟩⟩) | (go_at_call 67; (with_reducible refine (spec_l1In.calls a0 1040 1103 t129 _ A63.out).mono ?_); rintro e w' ⟨rfl, ⟨nd, rfl⟩⟩))
       go_ret
       exact ⟨by first | rfl | (simp; done) | (simp [*]; done), by repeat (first | exact Drawn0.refl _ | apply Drawn0.step)⟩
      ·rw [if_neg c62] at H
       have c62b0 : (a0 == 930) = false := beq_eq_false_iff_ne.mpr c62
       have c62b1 : (a0 != 930) = true := bne_iff_ne.mpr c62
       obtain rfl := Option.some.inj H
       go_enter Tryd.func66, Tryd.ntmps66
       go_wp2_with (first | (go_at_call 67; (with_reducible refine (spec_l1In.calls a0 192 591 false _ A46.out).mono ?_); rintro e w' ⟨rfl, ⟨nd, rfl⟩⟩) | (go_at_call 67; (with_reducible refine (spec_l1In.calls a0 913 969 true _ A60.out).mono ?_); rintro e w' ⟨rfl, ⟨nd, rfl⟩⟩))
       go_ret
       exact ⟨by first | rfl | (simp; done) | (simp [*]; done), by repeat (first | exact Drawn0.refl _ | apply Drawn0.step)⟩
     ·replace c61 := Bool.eq_false_iff.mpr c61
      subst c61
      have H1 : ((spec_l1In.f a0 1040 1103).bind fun t130 => (some t130)) = some r := by rw [if_neg (show ¬ (false = true) by decide)] at H; exact H
      clear H
      have H := H1
      clear H1
      replace H := Option.bind_eq_some_iff.mp H
      obtain ⟨t130, A640, H⟩ := H
      replace H : (some t130) = some r := H
      have A64 := Aside0.mk A640
      clear A640
      obtain rfl := Option.some.inj H
      go_enter Tryd.func66, Tryd.ntmps66
      go_wp2_with (first | (go_at_call 67; (with_reducible refine (spec_l1In.calls a0 192 591 false _ A46.out).mono ?_); rintro e w' ⟨rfl, ⟨nd, rfl⟩⟩) | (go_at_call 67; (with_reducible refine (spec_l1In.calls a0 913 969 false _ A60.out).mono ?_); rintro e w' ⟨rfl, ⟨nd, rfl⟩⟩) | (go_at_call 67; (with_reducible refine (spec_l1In.calls a0 1040 1103 t130 _ A64.out).mono ?_); rintro e w' ⟨rfl, ⟨nd, rfl⟩⟩))
      go_ret
      exact ⟨by first | rfl | (simp; done) | (simp [*]; done), by repeat (first | exact Drawn0.refl _ | apply Drawn0.step)⟩
  ·rw [if_neg c44] at H
   have c44b0 : decide (97 ≤ a0) = false := decide_eq_false c44
   clear c44
   replace H := Option.bind_eq_some_iff.mp H
   obtain ⟨t131, A650, H⟩ := H
   replace H : (if t131 = true then (if a0 = 215 then ((spec_l1In.f a0 913 969).bind fun t132 => (if t132 = true then (if a0 = 930 then ((spec_l1In.f a0 1040 1103).bind fun t133 => (some t133)) else (some true)) else ((spec_l1In.f a0 1040 1103).bind fun t134 => (some t134)))) else (if a0 = 247 then ((spec_l1In.f a0 913 969).bind fun t135 => (if t135 = true then (if a0 = 930 then ((spec_l1In.f a0 1040 1103).bind fun t136 => (some t136)) else (some true)) else ((spec_l1In.f a0 1040 1103).bind fun t137 => (some t137)))) else (some true))) else ((spec_l1In.f a0 913 969).bind fun t138 => (if t138 = true then (if a0 = 930 then ((spec_l1In.f a0 1040 1103).bind fun t139 => (some t139)) else (some true)) else ((spec_l1In.f a0 1040 1103).bind fun t140 => (some t140))))) = some r := H
   have A65 := Aside0.mk A650
   clear A650
   by_cases c66 : t131 = true
   ·subst c66
    have H1 : (if a0 = 215 then ((spec_l1In.f a0 913 969).bind fun t132 => (if t132 = true then (if a0 = 930 then ((spec_l1In.f a0 1040 1103).bind fun t133 => (some t133)) else (some true)) else ((spec_l1In.f a0 1040 1103).bind fun t134 => (some t134)))) else (if a0 = 247 then ((spec_l1In.f a0 913 969).bind fun t135 => (if t135 = true then (if a0 = 930 then ((spec_l1In.f a0 1040 1103).bind fun t136 => (some t136)) else (some true)) else ((spec_l1In.f a0 1040 1103).bind fun t137 => (some t137)))) else (some true))) = some r := by rw [if_pos rfl] at H; exact H
    clear H
    have H := H1
    clear H1
    by_cases c67 : a0 = 215
    ·rw [if_pos c67] at H
     have c67b0 : (a0 == 215) = true := beq_iff_eq.mpr c67
     have c67b1 : (a0 != 215) = false := bne_eq_false_iff_eq.mpr c67
     clear c67
     replace H := Option.bind_eq_some_iff.mp H
     obtain ⟨t132, A680, H⟩ := H
     replace H : (if t132 = true then (if a0 = 930 then ((spec_l1In.f a0 1040 1103).bind fun t133 => (some t133)) else (some true)) else ((spec_l1In.f a0 1040 1103).bind fun t134 => (some t134))) = some r := H
     have A68 := Aside0.mk A680
     clear A680
     by_cases c69 : t132 = true
     ·subst c69
      have H1 : (if a0 = 930 then ((spec_l1In.f a0 1040 1103).bind fun t133 => (some t133)) else (some true)) = some r := by rw [if_pos rfl] at H; exact H
      clear H
      have H := H1
      clear H1
      by_cases c70 : a0 = 930
      ·rw [if_pos c70] at H
       have c70b0 : (a0 == 930) = true := beq_iff_eq.mpr c70
       have c70b1 : (a0 != 930) = false := bne_eq_false_iff_eq.mpr c70
       clear c70
       replace H := Option.bind_eq_some_iff.mp H
       obtain ⟨t133, A710, H⟩ := H
       replace H : (some t133) = some r := H
       have A71 := Aside0.mk A710
       clear A710
       obtain rfl := Option.some.inj H
       go_enter Tryd.func66, Tryd.ntmps66
       go_wp2_with (first | (go_at_call 67; (with_reducible refine (spec_l1In.calls a0 192 591 true _ A65.out).mono ?_); rintro e w' ⟨rfl, ⟨nd, rfl⟩⟩) | (go_at_call 67; (with_reducible refine (spec_l1In.calls a0 913 969 true _ A68.out).mono ?_); rintro e w' ⟨rfl, ⟨nd, rfl⟩⟩) | (go_at_call 67; (with_reducible refine (spec_l1In.calls a0 1040 1103 t133 _ A71.out).mono ?_); rintro e w' ⟨rfl, ⟨nd, rfl⟩⟩))
       go_ret
       exact ⟨by first | rfl | (simp; done) | (simp [*]; done), by repeat (first | exact Drawn0.refl _ | apply Drawn0.step)⟩
      ·rw [if_neg c70] at H
       have c70b0 : (a0 == 930) = false := beq_eq_false_iff_ne.mpr c70
       have c70b1 : (a0 != 930) = true := bne_iff_ne.mpr c70
       obtain rfl := Option.some.inj H
       go_enter Tryd.func66, Tryd.ntmps66
       go_wp2_with (first | (go_at_call 67; (with_reducible refine (spec_l1In.calls a0 192 591 true _ A65.out).mono ?_); rintro e w' ⟨rfl, ⟨nd, rfl⟩⟩) | (go_at_call 67; (with_reducible refine (spec_l1In.calls a0 913 969 true _ A68.out).mono ?_); rintro e w' ⟨rfl, ⟨nd, rfl⟩⟩))
       go_ret
       exact ⟨by first | rfl | (simp; done) | (simp [*]; done), by repeat (first | exact Drawn0.refl _ | apply Drawn0.step)⟩
     ·replace c69 := Bool.eq_false_iff.mpr c69
      subst c69
      have H1 : ((spec_l1In.f a0 1040 1103).bind fun t134 => (some t134)) = some r := by rw [if_neg (show ¬ (false = true) by decide)] at H; exact H
      clear H
      have H := H1
      clear H1
      replace H := Option.bind_eq_some_iff.mp H
      obtain ⟨t134, A720, H⟩ := H
      replace H : (some t134) = some r := H
      have A72 := Aside0.mk A720
      clear A720
      obtain rfl := Option.some.inj H
      go_enter Tryd.func66, Tryd.ntmps66
      go_wp2_with (first | (go_at_call 67; (with_reducible refine (spec_l1In.calls a0 192 591 true _ A65.out).mono ?_); rintro e w' ⟨rfl, ⟨nd, rfl⟩⟩) | (go_at_call 67; (with_reducible refine (spec_l1In.calls a0 913 969 false _ A68.out).mono ?_); rintro e w' ⟨rfl, ⟨nd, rfl⟩⟩) | (go_at_call 67; (with_reducible refine (spec_l1In.calls a0 1040 1103 t134 _ A72.out).mono ?_); rintro e w' ⟨rfl, ⟨nd, rfl⟩⟩))
      go_ret
      exact ⟨by first | rfl | (simp; done) | (simp [*]; done), by repeat (first | exact Drawn0.refl _ | apply Drawn0.step)⟩
    ·rw [if_neg c67] at H
     have c67b0 : (a0 == 215) = false := beq_eq_false_iff_ne.mpr c67
     have c67b1 : (a0 != 215) = true := bne_iff_ne.mpr c67
     by_cases c73 : a0 = 247
     ·rw [if_pos c73] at H
      have c73b0 : (a0 == 247) = true := beq_iff_eq.mpr c73
      have c73b1 : (a0 != 247) = false := bne_eq_false_iff_eq.mpr c73
      clear c73
      replace H := Option.bind_eq_some_iff.mp H
      obtain ⟨t135, A740, H⟩ := H
      replace H : (if t135 = true then (if a0 = 930 then ((spec_l1In.f a0 1040 1103).bind fun t136 => (some t136)) else (some true)) else ((spec_l1In.f a0 1040 1103).bind fun t137 => (some t137))) = some r := H
      have A74 := Aside0.mk A740
      clear A740
      by_cases c75 : t135 = true
      ·subst c75
       have H1 : (if a0 = 930 then ((spec_l1In.f a0 1040 1103).bind fun t136 => (some t136)) else (some true)) = some r := by rw [if_pos rfl] at H; exact H
       clear H
       have H := H1
       clear H1
       by_cases c76 : a0 = 930
       ·rw [if_pos c76] at H
        have c76b0 : (a0 == 930) = true := beq_iff_eq.mpr c76
        have c76b1 : (a0 != 930) = false := bne_eq_false_iff_eq.mpr c76
        clear c76
        replace H := Option.bind_eq_some_iff.mp H
        obtain ⟨t136, A770, H⟩ := H
        replace H : (some t136) = some r := H
        have A77 := Aside0.mk A770
        clear A770
        obtain rfl := Option.some.inj H
        go_enter Tryd.func66, Tryd.ntmps66
        go_wp2_with (first | (go_at_call 67; (with_reducible refine (spec_l1In.calls a0 192 591 true _ A65.out).mono ?_); rintro e w' ⟨rfl, ⟨nd, rfl⟩⟩) | (go_at_call 67; (with_reducible refine (spec_l1In.calls a0 913 969 true _ A74.out).mono ?_); rintro e w' ⟨rfl, ⟨nd, rfl⟩⟩) | (go_at_call 67; (with_reducible refine (spec_l1In.calls a0 1040 1103 t136 _ A77.out).mono ?_); rintro e w' ⟨rfl, ⟨nd, rfl⟩⟩))
        go_ret
        exact ⟨by first | rfl | (simp; done) | (simp [*]; done), by repeat (first | exact Drawn0.refl _ | apply Drawn0.step)⟩
       ·rw [if_neg c76] at H
        have c76b0 : (a0 == 930) = false := beq_eq_false_iff_ne.mpr c76
        have c76b1 : (a0 != 930) = true := bne_iff_ne.mpr c76
        obtain rfl := Option.some.inj H
        go_enter Tryd.func66, Tryd.ntmps66
        go_wp2_with (first | (go_at_call 67; (with_reducible refine (spec_l1In.calls a0 192 591 true _ A65.out).mono ?_); rintro e w' ⟨rfl, ⟨nd, rfl⟩⟩) | (go_at_call 67; (with_reducible refine (spec_l1In.calls a0 913 969 true _ A74.out).mono ?_); rintro e w' ⟨rfl, ⟨nd, rfl⟩⟩))
        go_ret
        exact ⟨by first | rfl | (simp; done) | (simp [*]; done), by repeat (first | exact Drawn0.refl _ | apply Drawn0.step)⟩
      ·replace c75 := Bool.eq_false_iff.mpr c75
       subst c75
       have H1 : ((spec_l1In.f a0 1040 1103).bind fun t137 => (some t137)) = some r := by rw [if_neg (show ¬ (false = true) by decide)] at H; exact H
       clear H
       have H := H1
       clear H1
       replace H := Option.bind_eq_some_iff.mp H
       obtain ⟨t137, A780, H⟩ := H
       replace H : (some t137) = some r := H
       have A78 := Aside0.mk A780
       clear A780
       obtain rfl := Option.some.inj H
       go_enter Tryd.func66, Tryd.ntmps66
       go_wp2_with (first | (go_at_call 67; (with_reducible refine (spec_l1In.calls a0 192 591 true _ A65.out).mono ?_); rintro e w' ⟨rfl, ⟨nd, rfl⟩⟩) | (go_at_call 67; (with_reducible refine (spec_l1In.calls a0 913 969 false _ A74.out).mono ?_); rintro e w' ⟨rfl, ⟨nd, rfl⟩⟩) | (go_at_call 67; (with_reducible refine (spec_l1In.calls a0 1040 1103 t137 _ A78.out).mono ?_); rintro e w' ⟨rfl, ⟨nd, rfl⟩⟩))
       go_ret
       exact ⟨by first | rfl | (simp; done) | (simp [*]; done), by repeat (first | exact Drawn0.refl _ | apply Drawn0.step)⟩
     ·rw [if_neg c73] at H
      have c73b0 : (a0 == 247) = false := beq_eq_false_iff_ne.mpr c73
      have c73b1 : (a0 != 247) = true := bne_iff_ne.mpr c73
      obtain rfl := Option.some.inj H
      go_enter Tryd.func66, Tryd.ntmps66
      go_wp2_with (first | (go_at_call 67; (with_reducible refine (spec_l1In.calls a0 192 591 true _ A65.out).mono ?_); rintro e w' ⟨rfl, ⟨nd, rfl⟩⟩))
      go_ret
      exact ⟨by first | rfl | (simp; done) | (simp [*]; done), by repeat (first | exact Drawn0.refl _ | apply Drawn0.step)⟩
   ·replace c66 := Bool.eq_false_iff.mpr c66
    subst c66
    have H1 : ((spec_l1In.f a0 913 969).bind fun t138 => (if t138 = true then (if a0 = 930 then ((spec_l1In.f a0 1040 1103).bind fun t139 => (some t139)) else (some true)) else ((spec_l1In.f a0 1040 1103).bind fun t140 => (some t140)))) = some r := by rw [if_neg (show ¬ (false = true) by decide)] at H; exact H
    clear H
    have H := H1
    clear H1
    replace H := Option.bind_eq_some_iff.mp H
    obtain ⟨t138, A790, H⟩ := H
    replace H : (if t138 = true then (if a0 = 930 then ((spec_l1In.f a0 1040 1103).bind fun t139 => (some t139)) else (some true)) else ((spec_l1In.f a0 1040 1103).bind fun t140 => (some t140))) = some r := H
    have A79 := Aside0.mk A790
    clear A790
    by_cases c80 : t138 = true
    ·subst c80
     have H1 : (if a0 = 930 then ((spec_l1In.f a0 1040 1103).bind fun t139 => (some t139)) else (some true)) = some r := by rw [if_pos rfl] at H; exact H
     clear H
     have H := H1
     clear H1
     by_cases c81 : a0 = 930
     ·rw [if_pos c81] at H
      have c81b0 : (a0 == 930) = true := beq_iff_eq.mpr c81
      have c81b1 : (a0 != 930) = false := bne_eq_false_iff_eq.mpr c81
      clear c81
      replace H := Option.bind_eq_some_iff.mp H
      obtain ⟨t139, A820, H⟩ := H
      replace H : (some t139) = some r := H
      have A82 := Aside0.mk A820
      clear A820
      obtain rfl := Option.some.inj H
      go_enter Tryd.func66, Tryd.ntmps66
      go_wp2_with (first | (go_at_call 67; (with_reducible refine (spec_l1In.calls a0 192 591 false _ A65.out).mono ?_); rintro e w' ⟨rfl, ⟨nd, rfl⟩⟩) | (go_at_call 67; (with_reducible refine (spec_l1In.calls a0 913 969 true _ A79.out).mono ?_); rintro e w' ⟨rfl, ⟨nd, rfl⟩⟩) | (go_at_call 67; (with_reducible refine (spec_l1In.calls a0 1040 1103 t139 _ A82.out).mono ?_); rintro e w' ⟨rfl, ⟨nd, rfl⟩⟩))
      go_ret
      exact ⟨by first | rfl | (simp; done) | (simp [*]; done), by repeat (first | exact Drawn0.refl _ | apply Drawn0.step)⟩
     ·rw [if_neg c81] at H
      have c81b0 : (a0 == 930) = false := beq_eq_false_iff_ne.mpr c81
      have c81b1 : (a0 != 930) = true := bne_iff_ne.mpr c81
      obtain rfl := Option.some.inj H
      go_enter Tryd.func66, Tryd.ntmps66
      go_wp2_with (first | (go_at_call 67; (with_reducible refine (spec_l1In.calls a0 192 591 false _ A65.out).mono ?_); rintro e w' ⟨rfl, ⟨nd, rfl⟩⟩) | (go_at_call 67; (with_reducible refine (spec_l1In.calls a0 913 969 true _ A79.out).mono ?_); rintro e w' ⟨rfl, ⟨nd, rfl⟩⟩))
      go_ret
      exact ⟨by first | rfl | (simp; done) | (simp [*]; done), by repeat (first | exact Drawn0.refl _ | apply Drawn0.step)⟩
    ·replace c80 := Bool.eq_false_iff.mpr c80
     subst c80
     have H1 : ((spec_l1In.f a0 1040 1103).bind fun t140 => (some t140)) = some r := by rw [if_neg (show ¬ (false = true) by decide)] at H; exact H
     clear H
     have H := H1
     clear H1
     replace H := Option.bind_eq_some_iff.mp H
     obtain ⟨t140, A830, H⟩ := H
     replace H : (some t140) = some r := H
     have A83 := Aside0.mk A830
     clear A830
     obtain rfl := Option.some.inj H
     go_enter Tryd.func66, Tryd.ntmps66
     go_wp2_with (first | (go_at_call 67; (with_reducible refine (spec_l1In.calls a0 192 591 false _ A65.out).mono ?_); rintro e w' ⟨rfl, ⟨nd, rfl⟩⟩) | (go_at_call 67; (with_reducible refine (spec_l1In.calls a0 913 969 false _ A79.out).mono ?_); rintro e w' ⟨rfl, ⟨nd, rfl⟩⟩) | (go_at_call 67; (with_reducible refine (spec_l1In.calls a0 1040 1103 t140 _ A83.out).mono ?_); rintro e w' ⟨rfl, ⟨nd, rfl⟩⟩))
     go_ret
     exact ⟨by first | rfl | (simp; done) | (simp [*]; done), by repeat (first | exact Drawn0.refl _ | apply Drawn0.step)⟩

end Go.Proofs.YtfepbnolgceadaaDoor.MFnExactConfigure
