/- impl.letterOk, and strings.ContainsRune of the signs that a word may hold behind its first letter, at every rune. -/
import Derived.Test.YtfepbnolgceadaaDoorProg
import Derived.Below
import Derived.Deep.Draws
import Derived.Deep.AppendLies
import Derived.Maps.AppendAt
import Derived.OwnWalk
import Derived.Laws.BytesArg
import Derived.Laws.MakeOwn
import Derived.Laws.OwnMore
import Derived.Deep.OwnRows
import Derived.Tactics
import Derived.Lib.ConvBytes
import Derived.Laws.Slices
import Derived.WalkKit
import Derived.KernelRfl
import Derived.RowKit3
import Derived.Deep.LoopGhost
import Derived.Deep.QuietTactic
import Derived.BigQuiet
import Derived.WideLaws
import Derived.Deep.DeepCutAuto
import Derived.Deep.CutBlock
import Derived.Deep.RegionHeld3
import Derived.Laws.Rows
import Derived.Lib.AppendStr
import Derived.ArgAppend
import Derived.Laws.IdiomCopy
import Derived.OrdersHeld
import Derived.Laws.BitsLemmas
import Derived.RowKit
import Derived.Test.YtfepbnolgceadaaDoorVFnExactConfigure
import Derived.Test.YtfepbnolgceadaaDoorShelfAFnExactConfigure
import Derived.Lib.OthersKept
import Derived.Laws.Runes
import Derived.Deep.RegionWith
import Derived.Deep.DeepBigQuietO
namespace Go.Proofs.YtfepbnolgceadaaDoor.Hand
open Go Go.RowKit Go.Proofs.YtfepbnolgceadaaDoorW.PrintWords Go.Proofs.YtfepbnolgceadaaDoorW.PrintLast Go.Proofs.YtfepbnolgceadaaDoorW.PrintMore
attribute [local go_sem] max2_int min2_int max_two min_two max_three min_three max_four min_four
set_option linter.unusedVariables false
set_option linter.unusedSimpArgs false
/-! ### impl_in: function 25 -/
def impl_in.f (a0 : Int) (a1 : Int) (a2 : Int) : Option (Bool) := if a0 ≥ a1 then (some (decide (a0 ≤ a2))) else (some false)
set_option maxHeartbeats 8000000 in
set_option maxRecDepth 100000 in
theorem impl_in.calls (a0 : Int) (a1 : Int) (a2 : Int) (r : Bool) (w : World) (h : impl_in.f a0 a1 a2 = some r) :
    Calls Tryd.prog 57 #[.int .i64 a0, .int .i64 a1, .int .i64 a2] w fun e w' => e = .returned (.bool r) ∧ Drawn0 w w' := by
  have H : (if a0 ≥ a1 then (some (decide (a0 ≤ a2))) else (some false)) = some r := h
  clear h
  by_cases c4 : a0 ≥ a1
  · rw [if_pos c4] at H
    have c4b0 : decide (a1 ≤ a0) = true := decide_eq_true c4
    clear c4
    obtain rfl := Option.some.inj H
    go_enter Tryd.func57, Tryd.ntmps57
    go_wp2
    go_ret
    exact ⟨by first | rfl | (simp; done) | (simp [*]; done), by repeat (first | exact Drawn0.refl _ | apply Drawn0.step)⟩
  · rw [if_neg c4] at H
    have c4b0 : decide (a1 ≤ a0) = false := decide_eq_false c4
    clear c4
    obtain rfl := Option.some.inj H
    go_enter Tryd.func57, Tryd.ntmps57
    go_wp2
    go_ret
    exact ⟨by first | rfl | (simp; done) | (simp [*]; done), by repeat (first | exact Drawn0.refl _ | apply Drawn0.step)⟩


/-! ### impl_letterOk: function 27 -/
def impl_letterOk.f (a0 : Int) : Option (Bool) := (impl_in.f (wrap64 (a0)) 65 90).bind fun t153 => (if t153 = true then (some true) else ((impl_in.f (wrap64 (a0)) 97 122).bind fun t154 => (if t154 = true then (some true) else ((impl_in.f (wrap64 (a0)) 192 591).bind fun t155 => (if t155 = true then (if (wrap64 (a0)) = 215 then ((impl_in.f (wrap64 (a0)) 913 969).bind fun t156 => (if t156 = true then (if (wrap64 (a0)) = 930 then ((impl_in.f (wrap64 (a0)) 1040 1103).bind fun t157 => (some t157)) else (some true)) else ((impl_in.f (wrap64 (a0)) 1040 1103).bind fun t158 => (some t158)))) else (if (wrap64 (a0)) = 247 then ((impl_in.f (wrap64 (a0)) 913 969).bind fun t159 => (if t159 = true then (if (wrap64 (a0)) = 930 then ((impl_in.f (wrap64 (a0)) 1040 1103).bind fun t160 => (some t160)) else (some true)) else ((impl_in.f (wrap64 (a0)) 1040 1103).bind fun t161 => (some t161)))) else (some true))) else ((impl_in.f (wrap64 (a0)) 913 969).bind fun t162 => (if t162 = true then (if (wrap64 (a0)) = 930 then ((impl_in.f (wrap64 (a0)) 1040 1103).bind fun t163 => (some t163)) else (some true)) else ((impl_in.f (wrap64 (a0)) 1040 1103).bind fun t164 => (some t164)))))))))
set_option maxHeartbeats 8000000 in
set_option maxRecDepth 100000 in
theorem impl_letterOk.calls (a0 : Int) (r : Bool) (w : World) (h : impl_letterOk.f a0 = some r) :
    Calls Tryd.prog 59 #[.int .i32 a0] w fun e w' => e = .returned (.bool r) ∧ Drawn0 w w' := by
  have H : ((impl_in.f (wrap64 (a0)) 65 90).bind fun t153 => (if t153 = true then (some true) else ((impl_in.f (wrap64 (a0)) 97 122).bind fun t154 => (if t154 = true then (some true) else ((impl_in.f (wrap64 (a0)) 192 591).bind fun t155 => (if t155 = true then (if (wrap64 (a0)) = 215 then ((impl_in.f (wrap64 (a0)) 913 969).bind fun t156 => (if t156 = true then (if (wrap64 (a0)) = 930 then ((impl_in.f (wrap64 (a0)) 1040 1103).bind fun t157 => (some t157)) else (some true)) else ((impl_in.f (wrap64 (a0)) 1040 1103).bind fun t158 => (some t158)))) else (if (wrap64 (a0)) = 247 then ((impl_in.f (wrap64 (a0)) 913 969).bind fun t159 => (if t159 = true then (if (wrap64 (a0)) = 930 then ((impl_in.f (wrap64 (a0)) 1040 1103).bind fun t160 => (some t160)) else (some true)) else ((impl_in.f (wrap64 (a0)) 1040 1103).bind fun t161 => (some t161)))) else (some true))) else ((impl_in.f (wrap64 (a0)) 913 969).bind fun t162 => (if t162 = true then (if (wrap64 (a0)) = 930 then ((impl_in.f (wrap64 (a0)) 1040 1103).bind fun t163 => (some t163)) else (some true)) else ((impl_in.f (wrap64 (a0)) 1040 1103).bind fun t164 => (some t164)))))))))) = some r := h
  clear h
  replace H := Option.bind_eq_some_iff.mp H
  obtain ⟨t153, A20, H⟩ := H
  replace H : (if t153 = true then (some true) else ((impl_in.f (wrap64 (a0)) 97 122).bind fun t154 => (if t154 = true then (some true) else ((impl_in.f (wrap64 (a0)) 192 591).bind fun t155 => (if t155 = true then (if (wrap64 (a0)) = 215 then ((impl_in.f (wrap64 (a0)) 913 969).bind fun t156 => (if t156 = true then (if (wrap64 (a0)) = 930 then ((impl_in.f (wrap64 (a0)) 1040 1103).bind fun t157 => (some t157)) else (some true)) else ((impl_in.f (wrap64 (a0)) 1040 1103).bind fun t158 => (some t158)))) else (if (wrap64 (a0)) = 247 then ((impl_in.f (wrap64 (a0)) 913 969).bind fun t159 => (if t159 = true then (if (wrap64 (a0)) = 930 then ((impl_in.f (wrap64 (a0)) 1040 1103).bind fun t160 => (some t160)) else (some true)) else ((impl_in.f (wrap64 (a0)) 1040 1103).bind fun t161 => (some t161)))) else (some true))) else ((impl_in.f (wrap64 (a0)) 913 969).bind fun t162 => (if t162 = true then (if (wrap64 (a0)) = 930 then ((impl_in.f (wrap64 (a0)) 1040 1103).bind fun t163 => (some t163)) else (some true)) else ((impl_in.f (wrap64 (a0)) 1040 1103).bind fun t164 => (some t164))))))))) = some r := H
  have A2 := Aside0.mk A20
  clear A20
  by_cases c3 : t153 = true
  · subst c3
    have H1 : (some true) = some r := by rw [if_pos rfl] at H; exact H
    clear H
    have H := H1
    clear H1
    obtain rfl := Option.some.inj H
    go_enter Tryd.func59, Tryd.ntmps59
    go_wp2_with (first | ((with_reducible refine gate_callee (f := 57) rfl ?_); refine goesL_ (some 7) rfl rfl Tryd.func57 (by kernel_rfl) rfl #[.int .i64 (wrap64 (a0)), .int .i64 65, .int .i64 90] rfl (by (try simp only [List.map_toArray, List.map_cons, List.map_nil]); first | done | rfl | (simp only [List.length_drop, List.length_take]; rfl)) ?_; (with_reducible refine (impl_in.calls (wrap64 (a0)) 65 90 true _ A2.out).mono ?_); rintro e w' ⟨rfl, ⟨nd, rfl⟩⟩; refine ⟨_, rfl, ?_⟩))
    go_ret
    exact ⟨by first | rfl | (simp; done) | (simp [*]; done), by repeat (first | exact Drawn0.refl _ | apply Drawn0.step)⟩
  · replace c3 := Bool.eq_false_iff.mpr c3
    subst c3
    have H1 : ((impl_in.f (wrap64 (a0)) 97 122).bind fun t154 => (if t154 = true then (some true) else ((impl_in.f (wrap64 (a0)) 192 591).bind fun t155 => (if t155 = true then (if (wrap64 (a0)) = 215 then ((impl_in.f (wrap64 (a0)) 913 969).bind fun t156 => (if t156 = true then (if (wrap64 (a0)) = 930 then ((impl_in.f (wrap64 (a0)) 1040 1103).bind fun t157 => (some t157)) else (some true)) else ((impl_in.f (wrap64 (a0)) 1040 1103).bind fun t158 => (some t158)))) else (if (wrap64 (a0)) = 247 then ((impl_in.f (wrap64 (a0)) 913 969).bind fun t159 => (if t159 = true then (if (wrap64 (a0)) = 930 then ((impl_in.f (wrap64 (a0)) 1040 1103).bind fun t160 => (some t160)) else (some true)) else ((impl_in.f (wrap64 (a0)) 1040 1103).bind fun t161 => (some t161)))) else (some true))) else ((impl_in.f (wrap64 (a0)) 913 969).bind fun t162 => (if t162 = true then (if (wrap64 (a0)) = 930 then ((impl_in.f (wrap64 (a0)) 1040 1103).bind fun t163 => (some t163)) else (some true)) else ((impl_in.f (wrap64 (a0)) 1040 1103).bind fun t164 => (some t164)))))))) = some r := by rw [if_neg (show ¬ (false = true) by decide)] at H; exact H
    clear H
    have H := H1
    clear H1
    replace H := Option.bind_eq_some_iff.mp H
    obtain ⟨t154, A40, H⟩ := H
    replace H : (if t154 = true then (some true) else ((impl_in.f (wrap64 (a0)) 192 591).bind fun t155 => (if t155 = true then (if (wrap64 (a0)) = 215 then ((impl_in.f (wrap64 (a0)) 913 969).bind fun t156 => (if t156 = true then (if (wrap64 (a0)) = 930 then ((impl_in.f (wrap64 (a0)) 1040 1103).bind fun t157 => (some t157)) else (some true)) else ((impl_in.f (wrap64 (a0)) 1040 1103).bind fun t158 => (some t158)))) else (if (wrap64 (a0)) = 247 then ((impl_in.f (wrap64 (a0)) 913 969).bind fun t159 => (if t159 = true then (if (wrap64 (a0)) = 930 then ((impl_in.f (wrap64 (a0)) 1040 1103).bind fun t160 => (some t160)) else (some true)) else ((impl_in.f (wrap64 (a0)) 1040 1103).bind fun t161 => (some t161)))) else (some true))) else ((impl_in.f (wrap64 (a0)) 913 969).bind fun t162 => (if t162 = true then (if (wrap64 (a0)) = 930 then ((impl_in.f (wrap64 (a0)) 1040 1103).bind fun t163 => (some t163)) else (some true)) else ((impl_in.f (wrap64 (a0)) 1040 1103).bind fun t164 => (some t164))))))) = some r := H
    have A4 := Aside0.mk A40
    clear A40
    by_cases c5 : t154 = true
    · subst c5
      have H1 : (some true) = some r := by rw [if_pos rfl] at H; exact H
      clear H
      have H := H1
      clear H1
      obtain rfl := Option.some.inj H
      go_enter Tryd.func59, Tryd.ntmps59
      go_wp2_with (first | ((with_reducible refine gate_callee (f := 57) rfl ?_); refine goesL_ (some 7) rfl rfl Tryd.func57 (by kernel_rfl) rfl #[.int .i64 (wrap64 (a0)), .int .i64 65, .int .i64 90] rfl (by (try simp only [List.map_toArray, List.map_cons, List.map_nil]); first | done | rfl | (simp only [List.length_drop, List.length_take]; rfl)) ?_; (with_reducible refine (impl_in.calls (wrap64 (a0)) 65 90 false _ A2.out).mono ?_); rintro e w' ⟨rfl, ⟨nd, rfl⟩⟩; refine ⟨_, rfl, ?_⟩) | (go_at_call 57; (with_reducible refine (impl_in.calls (wrap64 (a0)) 97 122 true _ A4.out).mono ?_); rintro e w' ⟨rfl, ⟨nd, rfl⟩⟩))
      go_ret
      exact ⟨by first | rfl | (simp; done) | (simp [*]; done), by repeat (first | exact Drawn0.refl _ | apply Drawn0.step)⟩
    · replace c5 := Bool.eq_false_iff.mpr c5
      subst c5
      have H1 : ((impl_in.f (wrap64 (a0)) 192 591).bind fun t155 => (if t155 = true then (if (wrap64 (a0)) = 215 then ((impl_in.f (wrap64 (a0)) 913 969).bind fun t156 => (if t156 = true then (if (wrap64 (a0)) = 930 then ((impl_in.f (wrap64 (a0)) 1040 1103).bind fun t157 => (some t157)) else (some true)) else ((impl_in.f (wrap64 (a0)) 1040 1103).bind fun t158 => (some t158)))) else (if (wrap64 (a0)) = 247 then ((impl_in.f (wrap64 (a0)) 913 969).bind fun t159 => (if t159 = true then (if (wrap64 (a0)) = 930 then ((impl_in.f (wrap64 (a0)) 1040 1103).bind fun t160 => (some t160)) else (some true)) else ((impl_in.f (wrap64 (a0)) 1040 1103).bind fun t161 => (some t161)))) else (some true))) else ((impl_in.f (wrap64 (a0)) 913 969).bind fun t162 => (if t162 = true then (if (wrap64 (a0)) = 930 then ((impl_in.f (wrap64 (a0)) 1040 1103).bind fun t163 => (some t163)) else (some true)) else ((impl_in.f (wrap64 (a0)) 1040 1103).bind fun t164 => (some t164)))))) = some r := by rw [if_neg (show ¬ (false = true) by decide)] at H; exact H
      clear H
      have H := H1
      clear H1
      replace H := Option.bind_eq_some_iff.mp H
      obtain ⟨t155, A60, H⟩ := H
      replace H : (if t155 = true then (if (wrap64 (a0)) = 215 then ((impl_in.f (wrap64 (a0)) 913 969).bind fun t156 => (if t156 = true then (if (wrap64 (a0)) = 930 then ((impl_in.f (wrap64 (a0)) 1040 1103).bind fun t157 => (some t157)) else (some true)) else ((impl_in.f (wrap64 (a0)) 1040 1103).bind fun t158 => (some t158)))) else (if (wrap64 (a0)) = 247 then ((impl_in.f (wrap64 (a0)) 913 969).bind fun t159 => (if t159 = true then (if (wrap64 (a0)) = 930 then ((impl_in.f (wrap64 (a0)) 1040 1103).bind fun t160 => (some t160)) else (some true)) else ((impl_in.f (wrap64 (a0)) 1040 1103).bind fun t161 => (some t161)))) else (some true))) else ((impl_in.f (wrap64 (a0)) 913 969).bind fun t162 => (if t162 = true then (if (wrap64 (a0)) = 930 then ((impl_in.f (wrap64 (a0)) 1040 1103).bind fun t163 => (some t163)) else (some true)) else ((impl_in.f (wrap64 (a0)) 1040 1103).bind fun t164 => (some t164))))) = some r := H
      have A6 := Aside0.mk A60
      clear A60
      by_cases c7 : t155 = true
      · subst c7
        have H1 : (if (wrap64 (a0)) = 215 then ((impl_in.f (wrap64 (a0)) 913 969).bind fun t156 => (if t156 = true then (if (wrap64 (a0)) = 930 then ((impl_in.f (wrap64 (a0)) 1040 1103).bind fun t157 => (some t157)) else (some true)) else ((impl_in.f (wrap64 (a0)) 1040 1103).bind fun t158 => (some t158)))) else (if (wrap64 (a0)) = 247 then ((impl_in.f (wrap64 (a0)) 913 969).bind fun t159 => (if t159 = true then (if (wrap64 (a0)) = 930 then ((impl_in.f (wrap64 (a0)) 1040 1103).bind fun t160 => (some t160)) else (some true)) else ((impl_in.f (wrap64 (a0)) 1040 1103).bind fun t161 => (some t161)))) else (some true))) = some r := by rw [if_pos rfl] at H; exact H
        clear H
        have H := H1
        clear H1
        by_cases c8 : (wrap64 (a0)) = 215
        · rw [if_pos c8] at H
          have c8b0 : ((wrap64 (a0)) == 215) = true := beq_iff_eq.mpr c8
          have c8b1 : ((wrap64 (a0)) != 215) = false := bne_eq_false_iff_eq.mpr c8
          clear c8
          replace H := Option.bind_eq_some_iff.mp H
          obtain ⟨t156, A90, H⟩ := H
          replace H : (if t156 = true then (if (wrap64 (a0)) = 930 then ((impl_in.f (wrap64 (a0)) 1040 1103).bind fun t157 => (some t157)) else (some true)) else ((impl_in.f (wrap64 (a0)) 1040 1103).bind fun t158 => (some t158))) = some r := H
          have A9 := Aside0.mk A90
          clear A90
          by_cases c10 : t156 = true
          · subst c10
            have H1 : (if (wrap64 (a0)) = 930 then ((impl_in.f (wrap64 (a0)) 1040 1103).bind fun t157 => (some t157)) else (some true)) = some r := by rw [if_pos rfl] at H; exact H
            clear H
            have H := H1
            clear H1
            by_cases c11 : (wrap64 (a0)) = 930
            · rw [if_pos c11] at H
              have c11b0 : ((wrap64 (a0)) == 930) = true := beq_iff_eq.mpr c11
              have c11b1 : ((wrap64 (a0)) != 930) = false := bne_eq_false_iff_eq.mpr c11
              clear c11
              replace H := Option.bind_eq_some_iff.mp H
              obtain ⟨t157, A120, H⟩ := H
              replace H : (some t157) = some r := H
              have A12 := Aside0.mk A120
              clear A120
              obtain rfl := Option.some.inj H
              go_enter Tryd.func59, Tryd.ntmps59
              go_wp2_with (first | ((with_reducible refine gate_callee (f := 57) rfl ?_); refine goesL_ (some 7) rfl rfl Tryd.func57 (by kernel_rfl) rfl #[.int .i64 (wrap64 (a0)), .int .i64 65, .int .i64 90] rfl (by (try simp only [List.map_toArray, List.map_cons, List.map_nil]); first | done | rfl | (simp only [List.length_drop, List.length_take]; rfl)) ?_; (with_reducible refine (impl_in.calls (wrap64 (a0)) 65 90 false _ A2.out).mono ?_); rintro e w' ⟨rfl, ⟨nd, rfl⟩⟩; refine ⟨_, rfl, ?_⟩) | (go_at_call 57; (with_reducible refine (impl_in.calls (wrap64 (a0)) 97 122 false _ A4.out).mono ?_); rintro e w' ⟨rfl, ⟨nd, rfl⟩⟩) | (go_at_call 57; (with_reducible refine (impl_in.calls (wrap64 (a0)) 192 591 true _ A6.out).mono ?_); rintro e w' ⟨rfl, ⟨nd, rfl⟩⟩) | (go_at_call 57; (with_reducible refine (impl_in.calls (wrap64 (a0)) 913 969 true _ A9.out).mono ?_); rintro e w' ⟨rfl, ⟨nd, rfl⟩⟩) | (go_at_call 57; (with_reducible refine (impl_in.calls (wrap64 (a0)) 1040 1103 t157 _ A12.out).mono ?_); rintro e w' ⟨rfl, ⟨nd, rfl⟩⟩))
              go_ret
              exact ⟨by first | rfl | (simp; done) | (simp [*]; done), by repeat (first | exact Drawn0.refl _ | apply Drawn0.step)⟩
            · rw [if_neg c11] at H
              have c11b0 : ((wrap64 (a0)) == 930) = false := beq_eq_false_iff_ne.mpr c11
              have c11b1 : ((wrap64 (a0)) != 930) = true := bne_iff_ne.mpr c11
              obtain rfl := Option.some.inj H
              go_enter Tryd.func59, Tryd.ntmps59
              go_wp2_with (first | ((with_reducible refine gate_callee (f := 57) rfl ?_); refine goesL_ (some 7) rfl rfl Tryd.func57 (by kernel_rfl) rfl #[.int .i64 (wrap64 (a0)), .int .i64 65, .int .i64 90] rfl (by (try simp only [List.map_toArray, List.map_cons, List.map_nil]); first | done | rfl | (simp only [List.length_drop, List.length_take]; rfl)) ?_; (with_reducible refine (impl_in.calls (wrap64 (a0)) 65 90 false _ A2.out).mono ?_); rintro e w' ⟨rfl, ⟨nd, rfl⟩⟩; refine ⟨_, rfl, ?_⟩) | (go_at_call 57; (with_reducible refine (impl_in.calls (wrap64 (a0)) 97 122 false _ A4.out).mono ?_); rintro e w' ⟨rfl, ⟨nd, rfl⟩⟩) | (go_at_call 57; (with_reducible refine (impl_in.calls (wrap64 (a0)) 192 591 true _ A6.out).mono ?_); rintro e w' ⟨rfl, ⟨nd, rfl⟩⟩) | (go_at_call 57; (with_reducible refine (impl_in.calls (wrap64 (a0)) 913 969 true _ A9.out).mono ?_); rintro e w' ⟨rfl, ⟨nd, rfl⟩⟩))
              go_ret
              exact ⟨by first | rfl | (simp; done) | (simp [*]; done), by repeat (first | exact Drawn0.refl _ | apply Drawn0.step)⟩
          · replace c10 := Bool.eq_false_iff.mpr c10
            subst c10
            have H1 : ((impl_in.f (wrap64 (a0)) 1040 1103).bind fun t158 => (some t158)) = some r := by rw [if_neg (show ¬ (false = true) by decide)] at H; exact H
            clear H
            have H := H1
            clear H1
            replace H := Option.bind_eq_some_iff.mp H
            obtain ⟨t158, A130, H⟩ := H
            replace H : (some t158) = some r := H
            have A13 := Aside0.mk A130
            clear A130
            obtain rfl := Option.some.inj H
            go_enter Tryd.func59, Tryd.ntmps59
            go_wp2_with (first | ((with_reducible refine gate_callee (f := 57) rfl ?_); refine goesL_ (some 7) rfl rfl Tryd.func57 (by kernel_rfl) rfl #[.int .i64 (wrap64 (a0)), .int .i64 65, .int .i64 90] rfl (by (try simp only [List.map_toArray, List.map_cons, List.map_nil]); first | done | rfl | (simp only [List.length_drop, List.length_take]; rfl)) ?_; (with_reducible refine (impl_in.calls (wrap64 (a0)) 65 90 false _ A2.out).mono ?_); rintro e w' ⟨rfl, ⟨nd, rfl⟩⟩; refine ⟨_, rfl, ?_⟩) | (go_at_call 57; (with_reducible refine (impl_in.calls (wrap64 (a0)) 97 122 false _ A4.out).mono ?_); rintro e w' ⟨rfl, ⟨nd, rfl⟩⟩) | (go_at_call 57; (with_reducible refine (impl_in.calls (wrap64 (a0)) 192 591 true _ A6.out).mono ?_); rintro e w' ⟨rfl, ⟨nd, rfl⟩⟩) | (go_at_call 57; (with_reducible refine (impl_in.calls (wrap64 (a0)) 913 969 false _ A9.out).mono ?_); rintro e w' ⟨rfl, ⟨nd, rfl⟩⟩) | (go_at_call 57; (with_reducible refine (impl_in.calls (wrap64 (a0)) 1040 1103 t158 _ A13.out).mono ?_); rintro e w' ⟨rfl, ⟨nd, rfl⟩⟩))
            go_ret
            exact ⟨by first | rfl | (simp; done) | (simp [*]; done), by repeat (first | exact Drawn0.refl _ | apply Drawn0.step)⟩
        · rw [if_neg c8] at H
          have c8b0 : ((wrap64 (a0)) == 215) = false := beq_eq_false_iff_ne.mpr c8
          have c8b1 : ((wrap64 (a0)) != 215) = true := bne_iff_ne.mpr c8
          by_cases c14 : (wrap64 (a0)) = 247
          · rw [if_pos c14] at H
            have c14b0 : ((wrap64 (a0)) == 247) = true := beq_iff_eq.mpr c14
            have c14b1 : ((wrap64 (a0)) != 247) = false := bne_eq_false_iff_eq.mpr c14
            clear c14
            replace H := Option.bind_eq_some_iff.mp H
            obtain ⟨t159, A150, H⟩ := H
            replace H : (if t159 = true then (if (wrap64 (a0)) = 930 then ((impl_in.f (wrap64 (a0)) 1040 1103).bind fun t160 => (some t160)) else (some true)) else ((impl_in.f (wrap64 (a0)) 1040 1103).bind fun t161 => (some t161))) = some r := H
            have A15 := Aside0.mk A150
            clear A150
            by_cases c16 : t159 = true
            · subst c16
              have H1 : (if (wrap64 (a0)) = 930 then ((impl_in.f (wrap64 (a0)) 1040 1103).bind fun t160 => (some t160)) else (some true)) = some r := by rw [if_pos rfl] at H; exact H
              clear H
              have H := H1
              clear H1
              by_cases c17 : (wrap64 (a0)) = 930
              · rw [if_pos c17] at H
                have c17b0 : ((wrap64 (a0)) == 930) = true := beq_iff_eq.mpr c17
                have c17b1 : ((wrap64 (a0)) != 930) = false := bne_eq_false_iff_eq.mpr c17
                clear c17
                replace H := Option.bind_eq_some_iff.mp H
                obtain ⟨t160, A180, H⟩ := H
                replace H : (some t160) = some r := H
                have A18 := Aside0.mk A180
                clear A180
                obtain rfl := Option.some.inj H
                go_enter Tryd.func59, Tryd.ntmps59
                go_wp2_with (first | ((with_reducible refine gate_callee (f := 57) rfl ?_); refine goesL_ (some 7) rfl rfl Tryd.func57 (by kernel_rfl) rfl #[.int .i64 (wrap64 (a0)), .int .i64 65, .int .i64 90] rfl (by (try simp only [List.map_toArray, List.map_cons, List.map_nil]); first | done | rfl | (simp only [List.length_drop, List.length_take]; rfl)) ?_; (with_reducible refine (impl_in.calls (wrap64 (a0)) 65 90 false _ A2.out).mono ?_); rintro e w' ⟨rfl, ⟨nd, rfl⟩⟩; refine ⟨_, rfl, ?_⟩) | (go_at_call 57; (with_reducible refine (impl_in.calls (wrap64 (a0)) 97 122 false _ A4.out).mono ?_); rintro e w' ⟨rfl, ⟨nd, rfl⟩⟩) | (go_at_call 57; (with_reducible refine (impl_in.calls (wrap64 (a0)) 192 591 true _ A6.out).mono ?_); rintro e w' ⟨rfl, ⟨nd, rfl⟩⟩) | (go_at_call 57; (with_reducible refine (impl_in.calls (wrap64 (a0)) 913 969 true _ A15.out).mono ?_); rintro e w' ⟨rfl, ⟨nd, rfl⟩⟩) | (go_at_call 57; (with_reducible refine (impl_in.calls (wrap64 (a0)) 1040 1103 t160 _ A18.out).mono ?_); rintro e w' ⟨rfl, ⟨nd, rfl⟩⟩))
                go_ret
                exact ⟨by first | rfl | (simp; done) | (simp [*]; done), by repeat (first | exact Drawn0.refl _ | apply Drawn0.step)⟩
              · rw [if_neg c17] at H
                have c17b0 : ((wrap64 (a0)) == 930) = false := beq_eq_false_iff_ne.mpr c17
                have c17b1 : ((wrap64 (a0)) != 930) = true := bne_iff_ne.mpr c17
                obtain rfl := Option.some.inj H
                go_enter Tryd.func59, Tryd.ntmps59
                go_wp2_with (first | ((with_reducible refine gate_callee (f := 57) rfl ?_); refine goesL_ (some 7) rfl rfl Tryd.func57 (by kernel_rfl) rfl #[.int .i64 (wrap64 (a0)), .int .i64 65, .int .i64 90] rfl (by (try simp only [List.map_toArray, List.map_cons, List.map_nil]); first | done | rfl | (simp only [List.length_drop, List.length_take]; rfl)) ?_; (with_reducible refine (impl_in.calls (wrap64 (a0)) 65 90 false _ A2.out).mono ?_); rintro e w' ⟨rfl, ⟨nd, rfl⟩⟩; refine ⟨_, rfl, ?_⟩) | (go_at_call 57; (with_reducible refine (impl_in.calls (wrap64 (a0)) 97 122 false _ A4.out).mono ?_); rintro e w' ⟨rfl, ⟨nd, rfl⟩⟩) | (go_at_call 57; (with_reducible refine (impl_in.calls (wrap64 (a0)) 192 591 true _ A6.out).mono ?_); rintro e w' ⟨rfl, ⟨nd, rfl⟩⟩) | (go_at_call 57; (with_reducible refine (impl_in.calls (wrap64 (a0)) 913 969 true _ A15.out).mono ?_); rintro e w' ⟨rfl, ⟨nd, rfl⟩⟩))
                go_ret
                exact ⟨by first | rfl | (simp; done) | (simp [*]; done), by repeat (first | exact Drawn0.refl _ | apply Drawn0.step)⟩
            · replace c16 := Bool.eq_false_iff.mpr c16
              subst c16
              have H1 : ((impl_in.f (wrap64 (a0)) 1040 1103).bind fun t161 => (some t161)) = some r := by rw [if_neg (show ¬ (false = true) by decide)] at H; exact H
              clear H
              have H := H1
              clear H1
              replace H := Option.bind_eq_some_iff.mp H
              obtain ⟨t161, A190, H⟩ := H
              replace H : (some t161) = some r := H
              have A19 := Aside0.mk A190
              clear A190
              obtain rfl := Option.some.inj H
              go_enter Tryd.func59, Tryd.ntmps59
              go_wp2_with (first | ((with_reducible refine gate_callee (f := 57) rfl ?_); refine goesL_ (some 7) rfl rfl Tryd.func57 (by kernel_rfl) rfl #[.int .i64 (wrap64 (a0)), .int .i64 65, .int .i64 90] rfl (by (try simp only [List.map_toArray, List.map_cons, List.map_nil]); first | done | rfl | (simp only [List.length_drop, List.length_take]; rfl)) ?_; (with_reducible refine (impl_in.calls (wrap64 (a0)) 65 90 false _ A2.out).mono ?_); rintro e w' ⟨rfl, ⟨nd, rfl⟩⟩; refine ⟨_, rfl, ?_⟩) | (go_at_call 57; (with_reducible refine (impl_in.calls (wrap64 (a0)) 97 122 false _ A4.out).mono ?_); rintro e w' ⟨rfl, ⟨nd, rfl⟩⟩) | (go_at_call 57; (with_reducible refine (impl_in.calls (wrap64 (a0)) 192 591 true _ A6.out).mono ?_); rintro e w' ⟨rfl, ⟨nd, rfl⟩⟩) | (go_at_call 57; (with_reducible refine (impl_in.calls (wrap64 (a0)) 913 969 false _ A15.out).mono ?_); rintro e w' ⟨rfl, ⟨nd, rfl⟩⟩) | (go_at_call 57; (with_reducible refine (impl_in.calls (wrap64 (a0)) 1040 1103 t161 _ A19.out).mono ?_); rintro e w' ⟨rfl, ⟨nd, rfl⟩⟩))
              go_ret
              exact ⟨by first | rfl | (simp; done) | (simp [*]; done), by repeat (first | exact Drawn0.refl _ | apply Drawn0.step)⟩
          · rw [if_neg c14] at H
            have c14b0 : ((wrap64 (a0)) == 247) = false := beq_eq_false_iff_ne.mpr c14
            have c14b1 : ((wrap64 (a0)) != 247) = true := bne_iff_ne.mpr c14
            obtain rfl := Option.some.inj H
            go_enter Tryd.func59, Tryd.ntmps59
            go_wp2_with (first | ((with_reducible refine gate_callee (f := 57) rfl ?_); refine goesL_ (some 7) rfl rfl Tryd.func57 (by kernel_rfl) rfl #[.int .i64 (wrap64 (a0)), .int .i64 65, .int .i64 90] rfl (by (try simp only [List.map_toArray, List.map_cons, List.map_nil]); first | done | rfl | (simp only [List.length_drop, List.length_take]; rfl)) ?_; (with_reducible refine (impl_in.calls (wrap64 (a0)) 65 90 false _ A2.out).mono ?_); rintro e w' ⟨rfl, ⟨nd, rfl⟩⟩; refine ⟨_, rfl, ?_⟩) | (go_at_call 57; (with_reducible refine (impl_in.calls (wrap64 (a0)) 97 122 false _ A4.out).mono ?_); rintro e w' ⟨rfl, ⟨nd, rfl⟩⟩) | (go_at_call 57; (with_reducible refine (impl_in.calls (wrap64 (a0)) 192 591 true _ A6.out).mono ?_); rintro e w' ⟨rfl, ⟨nd, rfl⟩⟩))
            go_ret
            exact ⟨by first | rfl | (simp; done) | (simp [*]; done), by repeat (first | exact Drawn0.refl _ | apply Drawn0.step)⟩
      · replace c7 := Bool.eq_false_iff.mpr c7
        subst c7
        have H1 : ((impl_in.f (wrap64 (a0)) 913 969).bind fun t162 => (if t162 = true then (if (wrap64 (a0)) = 930 then ((impl_in.f (wrap64 (a0)) 1040 1103).bind fun t163 => (some t163)) else (some true)) else ((impl_in.f (wrap64 (a0)) 1040 1103).bind fun t164 => (some t164)))) = some r := by rw [if_neg (show ¬ (false = true) by decide)] at H; exact H
        clear H
        have H := H1
        clear H1
        replace H := Option.bind_eq_some_iff.mp H
        obtain ⟨t162, A200, H⟩ := H
        replace H : (if t162 = true then (if (wrap64 (a0)) = 930 then ((impl_in.f (wrap64 (a0)) 1040 1103).bind fun t163 => (some t163)) else (some true)) else ((impl_in.f (wrap64 (a0)) 1040 1103).bind fun t164 => (some t164))) = some r := H
        have A20 := Aside0.mk A200
        clear A200
        by_cases c21 : t162 = true
        · subst c21
          have H1 : (if (wrap64 (a0)) = 930 then ((impl_in.f (wrap64 (a0)) 1040 1103).bind fun t163 => (some t163)) else (some true)) = some r := by rw [if_pos rfl] at H; exact H
          clear H
          have H := H1
          clear H1
          by_cases c22 : (wrap64 (a0)) = 930
          · rw [if_pos c22] at H
            have c22b0 : ((wrap64 (a0)) == 930) = true := beq_iff_eq.mpr c22
            have c22b1 : ((wrap64 (a0)) != 930) = false := bne_eq_false_iff_eq.mpr c22
            clear c22
            replace H := Option.bind_eq_some_iff.mp H
            obtain ⟨t163, A230, H⟩ := H
            replace H : (some t163) = some r := H
            have A23 := Aside0.mk A230
            clear A230
            obtain rfl := Option.some.inj H
            go_enter Tryd.func59, Tryd.ntmps59
            go_wp2_with (first | ((with_reducible refine gate_callee (f := 57) rfl ?_); refine goesL_ (some 7) rfl rfl Tryd.func57 (by kernel_rfl) rfl #[.int .i64 (wrap64 (a0)), .int .i64 65, .int .i64 90] rfl (by (try simp only [List.map_toArray, List.map_cons, List.map_nil]); first | done | rfl | (simp only [List.length_drop, List.length_take]; rfl)) ?_; (with_reducible refine (impl_in.calls (wrap64 (a0)) 65 90 false _ A2.out).mono ?_); rintro e w' ⟨rfl, ⟨nd, rfl⟩⟩; refine ⟨_, rfl, ?_⟩) | (go_at_call 57; (with_reducible refine (impl_in.calls (wrap64 (a0)) 97 122 false _ A4.out).mono ?_); rintro e w' ⟨rfl, ⟨nd, rfl⟩⟩) | (go_at_call 57; (with_reducible refine (impl_in.calls (wrap64 (a0)) 192 591 false _ A6.out).mono ?_); rintro e w' ⟨rfl, ⟨nd, rfl⟩⟩) | (go_at_call 57; (with_reducible refine (impl_in.calls (wrap64 (a0)) 913 969 true _ A20.out).mono ?_); rintro e w' ⟨rfl, ⟨nd, rfl⟩⟩) | (go_at_call 57; (with_reducible refine (impl_in.calls (wrap64 (a0)) 1040 1103 t163 _ A23.out).mono ?_); rintro e w' ⟨rfl, ⟨nd, rfl⟩⟩))
            go_ret
            exact ⟨by first | rfl | (simp; done) | (simp [*]; done), by repeat (first | exact Drawn0.refl _ | apply Drawn0.step)⟩
          · rw [if_neg c22] at H
            have c22b0 : ((wrap64 (a0)) == 930) = false := beq_eq_false_iff_ne.mpr c22
            have c22b1 : ((wrap64 (a0)) != 930) = true := bne_iff_ne.mpr c22
            obtain rfl := Option.some.inj H
            go_enter Tryd.func59, Tryd.ntmps59
            go_wp2_with (first | ((with_reducible refine gate_callee (f := 57) rfl ?_); refine goesL_ (some 7) rfl rfl Tryd.func57 (by kernel_rfl) rfl #[.int .i64 (wrap64 (a0)), .int .i64 65, .int .i64 90] rfl (by (try simp only [List.map_toArray, List.map_cons, List.map_nil]); first | done | rfl | (simp only [List.length_drop, List.length_take]; rfl)) ?_; (with_reducible refine (impl_in.calls (wrap64 (a0)) 65 90 false _ A2.out).mono ?_); rintro e w' ⟨rfl, ⟨nd, rfl⟩⟩; refine ⟨_, rfl, ?_⟩) | (go_at_call 57; (with_reducible refine (impl_in.calls (wrap64 (a0)) 97 122 false _ A4.out).mono ?_); rintro e w' ⟨rfl, ⟨nd, rfl⟩⟩) | (go_at_call 57; (with_reducible refine (impl_in.calls (wrap64 (a0)) 192 591 false _ A6.out).mono ?_); rintro e w' ⟨rfl, ⟨nd, rfl⟩⟩) | (go_at_call 57; (with_reducible refine (impl_in.calls (wrap64 (a0)) 913 969 true _ A20.out).mono ?_); rintro e w' ⟨rfl, ⟨nd, rfl⟩⟩))
            go_ret
            exact ⟨by first | rfl | (simp; done) | (simp [*]; done), by repeat (first | exact Drawn0.refl _ | apply Drawn0.step)⟩
        · replace c21 := Bool.eq_false_iff.mpr c21
          subst c21
          have H1 : ((impl_in.f (wrap64 (a0)) 1040 1103).bind fun t164 => (some t164)) = some r := by rw [if_neg (show ¬ (false = true) by decide)] at H; exact H
          clear H
          have H := H1
          clear H1
          replace H := Option.bind_eq_some_iff.mp H
          obtain ⟨t164, A240, H⟩ := H
          replace H : (some t164) = some r := H
          have A24 := Aside0.mk A240
          clear A240
          obtain rfl := Option.some.inj H
          go_enter Tryd.func59, Tryd.ntmps59
          go_wp2_with (first | ((with_reducible refine gate_callee (f := 57) rfl ?_); refine goesL_ (some 7) rfl rfl Tryd.func57 (by kernel_rfl) rfl #[.int .i64 (wrap64 (a0)), .int .i64 65, .int .i64 90] rfl (by (try simp only [List.map_toArray, List.map_cons, List.map_nil]); first | done | rfl | (simp only [List.length_drop, List.length_take]; rfl)) ?_; (with_reducible refine (impl_in.calls (wrap64 (a0)) 65 90 false _ A2.out).mono ?_); rintro e w' ⟨rfl, ⟨nd, rfl⟩⟩; refine ⟨_, rfl, ?_⟩) | (go_at_call 57; (with_reducible refine (impl_in.calls (wrap64 (a0)) 97 122 false _ A4.out).mono ?_); rintro e w' ⟨rfl, ⟨nd, rfl⟩⟩) | (go_at_call 57; (with_reducible refine (impl_in.calls (wrap64 (a0)) 192 591 false _ A6.out).mono ?_); rintro e w' ⟨rfl, ⟨nd, rfl⟩⟩) | (go_at_call 57; (with_reducible refine (impl_in.calls (wrap64 (a0)) 913 969 false _ A20.out).mono ?_); rintro e w' ⟨rfl, ⟨nd, rfl⟩⟩) | (go_at_call 57; (with_reducible refine (impl_in.calls (wrap64 (a0)) 1040 1103 t164 _ A24.out).mono ?_); rintro e w' ⟨rfl, ⟨nd, rfl⟩⟩))
          go_ret
          exact ⟨by first | rfl | (simp; done) | (simp [*]; done), by repeat (first | exact Drawn0.refl _ | apply Drawn0.step)⟩

-- NOT PRINTED: function 75 (bytealg_IndexByteString)

-- NOT PRINTED: function 69 (stringslite_IndexByte)

-- NOT PRINTED: function 53 (strings_IndexByte)


def signs : ByteArray := ⟨#[48, 49, 50, 51, 52, 53, 54, 55, 56, 57, 45, 95, 46]⟩
def signB (r : Int) : Bool := decide (48 ≤ r ∧ r ≤ 57) || decide (r = 45) || decide (r = 95) || decide (r = 46)
theorem sign_low : ∀ r : Fin 128, decide (0 ≤ Lib.indexByte signs.data.toList ((r.val : Int)).toNat.toUInt8) = signB (r.val : Int) := by decide +kernel
theorem sign_high (r : Int) (h : 128 ≤ r) : signB r = false := by
  unfold signB
  rw [decide_eq_false (by omega), decide_eq_false (by omega), decide_eq_false (by omega), decide_eq_false (by omega)]
  rfl
theorem signs_ascii : ∀ b ∈ signs.data.toList, b.toNat < 128 := by decide
theorem signs_size : signs.size = 13 := rfl
theorem signs_at (i : Nat) (h : i < signs.size) : (signs[i]'h).toNat < 128 := signs_ascii _ (Array.getElem_mem_toList (xs := signs.data) h)
theorem indexByte_none : ∀ (l : List UInt8) (c : UInt8), (∀ b ∈ l, b ≠ c) → Lib.indexByte l c = -1
  | [], _, _ => rfl
  | b :: l, c, h => by
    have h1 := h b (by simp)
    have h2 := indexByte_none l c (fun x hx => h x (by simp [hx]))
    simp [Lib.indexByte, h1, h2]
set_option maxHeartbeats 8000000 in
set_option maxRecDepth 100000 in
/-- strings.IndexRune of the signs at a rune beyond ASCII: none. -/
theorem index_high (r : Int) (w : World) (h : 128 ≤ r) (h2 : r ≤ 1114111) :
    Calls Tryd.prog 78 #[.string signs, .int .i32 r] w fun e w' => e = .returned (.int .i64 (-1)) ∧ Below w.heap.size w w' := by
  have c0 : decide (0 ≤ r) = true := decide_eq_true (by omega)
  have c1 : decide (r < 128) = false := decide_eq_false (by omega)
  by_cases h3 : r = 65533
  · subst h3
    clear h h2
    go_enter Tryd.func78, Tryd.ntmps78
    go_wp2
    go_loopg [] 13 (fun gf wx => ∃ pos : Nat, wx.heap[w.heap.size]? = some (.stringIter signs pos) ∧ Below w.heap.size w wx ∧ 13 ≤ pos + gf)
    case atStart => exact ⟨0, World.iter_heap w signs 0, (Below.refl _ w).alloc (Nat.le_refl _) _, by omega⟩
    case round =>
      obtain ⟨pos, hit, hbw, hfu⟩ := hrel
      by_cases hps : pos < signs.size
      · have hps2 : pos < 13 := hps
        obtain ⟨g', rfl⟩ : ∃ g', gk = g' + 1 := ⟨gk - 1, by omega⟩
        have hnx : ∀ ty, (Instr.next (.pointer (some ⟨w.heap.size, 0, none⟩)) true ty).run Tryd.prog wr = _ := fun ty => Lib.run_next_any_at wr w.heap.size signs pos ty hit hps
        have hd := decode_ascii signs pos hps (signs_at pos hps)
        obtain ⟨R, hR⟩ : ∃ R : Nat, (signs[pos]'hps).toNat = R := ⟨_, rfl⟩
        rw [hR] at hd
        have hr : R < 128 := hR ▸ signs_at pos hps
        rw [hd] at hnx
        have hne : ((R : Int) == 65533) = false := beq_eq_false_iff_ne.mpr (by omega)
        have hit2 := Lib.iterAt_heap wr w.heap.size signs pos (pos + 1) hit
        have hbw2 := Lib.below_iterAt hbw (k := w.heap.size) (Nat.le_refl _) signs (pos + 1)
        obtain ⟨W, hWd⟩ : ∃ W, wr.iterAt w.heap.size signs (pos + 1) = W := ⟨_, rfl⟩
        simp only [hWd] at hnx
        rw [hWd] at hit2 hbw2
        go_wp2
        go_roundg g'
        case measure => omega
        case rel => exact ⟨pos + 1, hit2, hbw2, by omega⟩
      · have hnx : ∀ ty, (Instr.next (.pointer (some ⟨w.heap.size, 0, none⟩)) true ty).run Tryd.prog wr = _ := fun ty => Lib.run_next_end_at wr w.heap.size signs pos ty hit hps
        go_wp2
        go_ret
        exact ⟨rfl, hbw⟩
  · have c3 : (r == 65533) = false := beq_eq_false_iff_ne.mpr h3
    cases hv : Lib.validRune r
    · have cV := Tryd.utf8_ValidRune r
      rw [hv] at cV
      go_enter Tryd.func78, Tryd.ntmps78
      go_wp2_with (go_at_call 104; refine (cV _).mono ?_; rintro e w' ⟨rfl, hw⟩; rw [hw])
      go_ret
      exact ⟨rfl, Below.refl _ _⟩
    · have cV := Tryd.utf8_ValidRune r
      rw [hv] at cV
      have hv2 : Utf8.valid r = true := (validRune_eq r).trans hv
      obtain ⟨e1, e2, e3⟩ := encode_facts r hv2 h
      obtain ⟨E, hE⟩ : ∃ E, Utf8.encode r = E := ⟨_, rfl⟩
      have hcv : ∀ w, (convert 21 9 (.int .i32 r)).run Tryd.prog w = .ok (.string E) w := fun w => by rw [run_convert_int_string w 21 9 .i32 r (by rw [Tryd.underlying21]; rfl) Tryd.underlying9, hE]
      rw [hE] at e1 e2 e3
      obtain ⟨L, hL⟩ : ∃ L : Int, L = (E.size : Int) - 1 := ⟨_, rfl⟩
      have q1 : IntKind.i64.wrap ((E.size : Int) - 1) = L := by rw [IntKind.wrap_i64]; omega
      have q2 : decide (L < (signs.size : Int)) = true := decide_eq_true (by rw [signs_size]; omega)
      have b1 : bt signs L < 128 := by
        have h0 : L.toNat < signs.size := by rw [signs_size]; omega
        rw [← bt_at signs _ h0]
        have := signs_at _ h0
        omega
      have b2 : 128 ≤ bt E L ∧ bt E L ≤ 255 := by
        refine ⟨?_, (bt_range _ _).2⟩
        have h0 : L.toNat < E.size := by omega
        rw [← bt_at E _ h0]
        have e4 : L.toNat = E.size - 1 := by omega
        have := e3 (by omega)
        simp only [e4]
        omega
      have b3 := (bt_range signs L).1
      have x1 := bt_at signs L
      have x2 := bt_at E L
      obtain ⟨x, hx⟩ : ∃ x, bt signs L = x := ⟨_, rfl⟩
      obtain ⟨y, hy⟩ : ∃ y, bt E L = y := ⟨_, rfl⟩
      rw [hx] at x1 b1 b3
      rw [hy] at x2 b2
      have p1 : (0 ≤ L) = True := eq_true (by omega)
      have p2 : (L < (signs.size : Int)) = True := eq_true (by rw [signs_size]; omega)
      have p3 : (L < (E.size : Int)) = True := eq_true (by omega)
      have d1 : (x != y) = true := bne_iff_ne.mpr (by omega)
      have q3 : IntKind.i64.wrap (L + 1) = L + 1 := by rw [IntKind.wrap_i64]; omega
      have cI := Tryd.strings_IndexByte (signs.extract (L + 1).toNat signs.size) y
      rw [indexByte_none _ _ (fun b hb => by
        have h1 := signs_ascii b (mem_extract hb)
        intro h2
        rw [h2] at h1
        have : y.toNat.toUInt8.toNat = y.toNat := by
          rw [Nat.toUInt8, UInt8.toNat_ofNat']
          exact Nat.mod_eq_of_lt (by omega)
        omega)] at cI
      have p4 : (0 ≤ L + 1) = True := eq_true (by omega)
      have p5 : (L + 1 ≤ (signs.size : Int)) = True := eq_true (by rw [signs_size]; omega)
      have hsl : ∀ W : World, (Instr.slice 9 (.string signs) (some (.int .i64 (L + 1))) none none).run Tryd.prog W = .ok (.string (signs.extract (L + 1).toNat signs.size)) W := fun W => run_slice_string_l W 9 signs Tryd.underlying9 .i64 (L + 1) (by omega) (by rw [signs_size]; omega)
      have cI2 : ∀ w : World, Calls Tryd.prog 103 #[.string (signs.extract (L + 1).toNat signs.size), .int .u8 y] w fun e w' => e = .returned (.int .i64 (-1)) ∧ ∃ q, w' = w.drewN q := fun w => (cI w).mono (by rintro e w' ⟨rfl, rfl⟩; exact ⟨rfl, 0, rfl⟩)
      have mixed : Tryd.prog.toTables.follows Departure.mixedOrders = true := by kernel_rfl
      clear hx hy b1 b2 b3 hE e1 e2 e3 hL
      go_enter Tryd.func78, Tryd.ntmps78
      go_wp2_with (first | (go_at_call 104; refine (cV _).mono ?_; rintro e w' ⟨rfl, hw⟩; rw [hw]) )
      go_step3
      go_wp2
      go_loopg [9] 0 (fun gf s9 wx => s9 = .int .i64 L ∧ wx = w)
      case atStart => exact ⟨rfl, rfl⟩
      case round =>
        obtain ⟨rfl, rfl⟩ := hrel
        go_wp2
        go_step3
        go_wp2
        go_region
        all_goals go_wp2
        all_goals go_region_with (go_at_call 103; refine (cI _).mono ?_; rintro e w' ⟨rfl, hw⟩; rw [hw])
        go_simp
        go_wp2
        rw [Exit.noGoto_ret]
        go_simp
        go_ret
        exact ⟨rfl, (Below.refl _ _).drew.drew⟩
set_option maxRecDepth 100000 in
/-- strings.ContainsRune of the signs at a rune. -/
theorem contains_sign (r : Int) (w : World) (h : 0 ≤ r) (h2 : r ≤ 1114111) :
    Calls Tryd.prog 60 #[.string signs, .int .i32 r] w fun e w' => e = .returned (.bool (signB r)) ∧ Below w.heap.size w w' := by
  by_cases hr : r < 128
  · have e : decide (0 ≤ Lib.indexByte signs.data.toList r.toNat.toUInt8) = signB r := by
      have := sign_low ⟨r.toNat, by omega⟩
      simp only at this
      rw [show ((r.toNat : Nat) : Int) = r from by omega] at this
      exact this
    refine (Tryd.strings_ContainsRune_ascii signs r w h hr).mono ?_
    rintro e1 w' ⟨rfl, rfl⟩
    exact ⟨by rw [e], Below.refl _ _⟩
  · rw [sign_high r (by omega)]
    go_enter Tryd.func60, Tryd.ntmps60
    go_wp2_with (first | (go_at_call 78; refine (index_high r w (by omega) h2).mono ?_; rintro e w' ⟨rfl, hb⟩))
    go_ret
    exact ⟨rfl, hb⟩
end Go.Proofs.YtfepbnolgceadaaDoor.Hand
