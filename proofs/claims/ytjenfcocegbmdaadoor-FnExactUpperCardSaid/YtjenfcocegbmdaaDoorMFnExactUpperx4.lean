/- The functions that the law FnExactUpper reaches, as plain functions, and that the code comes to them. Begun as a text of the print over stubs; turned by wip/handstub.py and wip/mend.py. -/
import Derived.Test.YtjenfcocegbmdaaDoorMFnExactUpperx0
import Derived.Test.YtjenfcocegbmdaaDoorMFnExactUpperx1
import Derived.Test.YtjenfcocegbmdaaDoorMFnExactUpperx3
namespace Go.Proofs.YtjenfcocegbmdaaDoor.MFnExactUpper
open Go.RowKit Go.Proofs.YtjenfcocegbmdaaDoorW.PrintWords Go.Proofs.YtjenfcocegbmdaaDoorW.PrintLast Go.Proofs.YtjenfcocegbmdaaDoorW.PrintMore
attribute [local go_sem] max2_int min2_int max_two min_two max_three min_three max_four min_four   -- for this text's walks alone
set_option linter.unusedVariables false
set_option linter.unusedSimpArgs false

/-! ### spec_Upper: function 15 -/
def spec_Upper.l0 : Nat → ByteArray → ByteArray → Int → Option (ByteArray)
  | 0, _, _, _ => none
  | k + 1, x0, x3, x4 => if x4 < (x0.size : Int) then ((spec_l19Rune.f x0 x4).bind fun bt153 => (if bt153.1 ≥ 97 then (if bt153.1 ≤ 122 then ((spec_l19Put.f (wrap64 (bt153.1 - 32))).bind fun t155 => (if x3.size + t155.size ≤ 9223372036854775807 then (spec_Upper.l0 k x0 (x3 ++ t155) (wrap64 (x4 + bt153.2))) else (none))) else ((spec_l1In.f bt153.1 224 254).bind fun t156 => (if t156 = true then (if bt153.1 = 247 then ((spec_l1In.f bt153.1 945 969).bind fun t157 => (if t157 = true then (if bt153.1 = 962 then ((spec_l1In.f bt153.1 1072 1103).bind fun t158 => (if t158 = true then ((spec_l19Put.f (wrap64 (bt153.1 - 32))).bind fun t159 => (if x3.size + t159.size ≤ 9223372036854775807 then (spec_Upper.l0 k x0 (x3 ++ t159) (wrap64 (x4 + bt153.2))) else (none))) else ((spec_l19Put.f bt153.1).bind fun t160 => (if x3.size + t160.size ≤ 9223372036854775807 then (spec_Upper.l0 k x0 (x3 ++ t160) (wrap64 (x4 + bt153.2))) else (none))))) else ((spec_l19Put.f (wrap64 (bt153.1 - 32))).bind fun t161 => (if x3.size + t161.size ≤ 9223372036854775807 then (spec_Upper.l0 k x0 (x3 ++ t161) (wrap64 (x4 + bt153.2))) else (none)))) else ((spec_l1In.f bt153.1 1072 1103).bind fun t162 => (if t162 = true then ((spec_l19Put.f (wrap64 (bt153.1 - 32))).bind fun t163 => (if x3.size + t163.size ≤ 9223372036854775807 then (spec_Upper.l0 k x0 (x3 ++ t163) (wrap64 (x4 + bt153.2))) else (none))) else ((spec_l19Put.f bt153.1).bind fun t164 => (if x3.size + t164.size ≤ 9223372036854775807 then (spec_Upper.l0 k x0 (x3 ++ t164) (wrap64 (x4 + bt153.2))) else (none))))))) else ((spec_l19Put.f (wrap64 (bt153.1 - 32))).bind fun t165 => (if x3.size + t165.size ≤ 9223372036854775807 then (spec_Upper.l0 k x0 (x3 ++ t165) (wrap64 (x4 + bt153.2))) else (none)))) else ((spec_l1In.f bt153.1 945 969).bind fun t166 => (if t166 = true then (if bt153.1 = 962 then ((spec_l1In.f bt153.1 1072 1103).bind fun t167 => (if t167 = true then ((spec_l19Put.f (wrap64 (bt153.1 - 32))).bind fun t168 => (if x3.size + t168.size ≤ 9223372036854775807 then (spec_Upper.l0 k x0 (x3 ++ t168) (wrap64 (x4 + bt153.2))) else (none))) else ((spec_l19Put.f bt153.1).bind fun t169 => (if x3.size + t169.size ≤ 9223372036854775807 then (spec_Upper.l0 k x0 (x3 ++ t169) (wrap64 (x4 + bt153.2))) else (none))))) else ((spec_l19Put.f (wrap64 (bt153.1 - 32))).bind fun t170 => (if x3.size + t170.size ≤ 9223372036854775807 then (spec_Upper.l0 k x0 (x3 ++ t170) (wrap64 (x4 + bt153.2))) else (none)))) else ((spec_l1In.f bt153.1 1072 1103).bind fun t171 => (if t171 = true then ((spec_l19Put.f (wrap64 (bt153.1 - 32))).bind fun t172 => (if x3.size + t172.size ≤ 9223372036854775807 then (spec_Upper.l0 k x0 (x3 ++ t172) (wrap64 (x4 + bt153.2))) else (none))) else ((spec_l19Put.f bt153.1).bind fun t173 => (if x3.size + t173.size ≤ 9223372036854775807 then (spec_Upper.l0 k x0 (x3 ++ t173) (wrap64 (x4 + bt153.2))) else (none)))))))))) else ((spec_l1In.f bt153.1 224 254).bind fun t174 => (if t174 = true then (if bt153.1 = 247 then ((spec_l1In.f bt153.1 945 969).bind fun t175 => (if t175 = true then (if bt153.1 = 962 then ((spec_l1In.f bt153.1 1072 1103).bind fun t176 => (if t176 = true then ((spec_l19Put.f (wrap64 (bt153.1 - 32))).bind fun t177 => (if x3.size + t177.size ≤ 9223372036854775807 then (spec_Upper.l0 k x0 (x3 ++ t177) (wrap64 (x4 + bt153.2))) else (none))) else ((spec_l19Put.f bt153.1).bind fun t178 => (if x3.size + t178.size ≤ 9223372036854775807 then (spec_Upper.l0 k x0 (x3 ++ t178) (wrap64 (x4 + bt153.2))) else (none))))) else ((spec_l19Put.f (wrap64 (bt153.1 - 32))).bind fun t179 => (if x3.size + t179.size ≤ 9223372036854775807 then (spec_Upper.l0 k x0 (x3 ++ t179) (wrap64 (x4 + bt153.2))) else (none)))) else ((spec_l1In.f bt153.1 1072 1103).bind fun t180 => (if t180 = true then ((spec_l19Put.f (wrap64 (bt153.1 - 32))).bind fun t181 => (if x3.size + t181.size ≤ 9223372036854775807 then (spec_Upper.l0 k x0 (x3 ++ t181) (wrap64 (x4 + bt153.2))) else (none))) else ((spec_l19Put.f bt153.1).bind fun t182 => (if x3.size + t182.size ≤ 9223372036854775807 then (spec_Upper.l0 k x0 (x3 ++ t182) (wrap64 (x4 + bt153.2))) else (none))))))) else ((spec_l19Put.f (wrap64 (bt153.1 - 32))).bind fun t183 => (if x3.size + t183.size ≤ 9223372036854775807 then (spec_Upper.l0 k x0 (x3 ++ t183) (wrap64 (x4 + bt153.2))) else (none)))) else ((spec_l1In.f bt153.1 945 969).bind fun t184 => (if t184 = true then (if bt153.1 = 962 then ((spec_l1In.f bt153.1 1072 1103).bind fun t185 => (if t185 = true then ((spec_l19Put.f (wrap64 (bt153.1 - 32))).bind fun t186 => (if x3.size + t186.size ≤ 9223372036854775807 then (spec_Upper.l0 k x0 (x3 ++ t186) (wrap64 (x4 + bt153.2))) else (none))) else ((spec_l19Put.f bt153.1).bind fun t187 => (if x3.size + t187.size ≤ 9223372036854775807 then (spec_Upper.l0 k x0 (x3 ++ t187) (wrap64 (x4 + bt153.2))) else (none))))) else ((spec_l19Put.f (wrap64 (bt153.1 - 32))).bind fun t188 => (if x3.size + t188.size ≤ 9223372036854775807 then (spec_Upper.l0 k x0 (x3 ++ t188) (wrap64 (x4 + bt153.2))) else (none)))) else ((spec_l1In.f bt153.1 1072 1103).bind fun t189 => (if t189 = true then ((spec_l19Put.f (wrap64 (bt153.1 - 32))).bind fun t190 => (if x3.size + t190.size ≤ 9223372036854775807 then (spec_Upper.l0 k x0 (x3 ++ t190) (wrap64 (x4 + bt153.2))) else (none))) else ((spec_l19Put.f bt153.1).bind fun t191 => (if x3.size + t191.size ≤ 9223372036854775807 then (spec_Upper.l0 k x0 (x3 ++ t191) (wrap64 (x4 + bt153.2))) else (none))))))))))) else (some x3)
def spec_Upper.f (k : Nat) (a0 : ByteArray) : Option (ByteArray) := (spec_WordOk.f k a0).bind fun t152 => (if t152 = true then (spec_Upper.l0 k a0 (⟨#[]⟩ : ByteArray) 0) else (some (⟨#[]⟩ : ByteArray)))
theorem spec_Upper.mono_l : ∀ k, (∀ y0 y1 y2, LeO (spec_Upper.l0 k y0 y1 y2) (spec_Upper.l0 (k + 1) y0 y1 y2))
  | 0 => fun _ _ _ r h => by simp [spec_Upper.l0] at h
  | k + 1 => by
    have ih0 := spec_Upper.mono_l k
    · intro y0 y1 y2
      unfold spec_Upper.l0
      repeat' first
      | (with_reducible exact ih0 _ _ _)
      | (with_reducible exact spec_WordOk.mono _ _)
      | (with_reducible exact LeO.refl _)
      | (with_reducible exact LeO.none _)
      | (with_reducible refine LeO.ite ?_ ?_)
      | (with_reducible refine LeO.bind ?_ (fun _ => ?_))
      | exact ih0 _ _ _
      | exact spec_WordOk.mono _ _
      | exact LeO.none _
      | refine LeO.ite ?_ ?_
      | refine LeO.bind ?_ (fun _ => ?_)
theorem spec_Upper.mono : ∀ a0 k, LeO (spec_Upper.f k a0) (spec_Upper.f (k + 1) a0) := by
  intro a0 k
  have ih0 := spec_Upper.mono_l k
  unfold spec_Upper.f
  repeat' first
      | (with_reducible exact ih0 _ _ _)
      | (with_reducible exact spec_WordOk.mono _ _)
      | (with_reducible exact LeO.refl _)
      | (with_reducible exact LeO.none _)
      | (with_reducible refine LeO.ite ?_ ?_)
      | (with_reducible refine LeO.bind ?_ (fun _ => ?_))
      | exact ih0 _ _ _
      | exact spec_WordOk.mono _ _
      | exact LeO.none _
      | refine LeO.ite ?_ ?_
      | refine LeO.bind ?_ (fun _ => ?_)
set_option maxHeartbeats 8000000 in
set_option maxRecDepth 100000 in
theorem spec_Upper.calls (k : Nat) (a0 : ByteArray) (r : ByteArray) (w : World) (h : spec_Upper.f k a0 = some r) :
    Calls Tryd.prog 15 #[.string a0] w fun e w' => e = .returned (.string r) ∧ Below w.heap.size w w' := by
  have HB := Aside0.mk (Below.refl w.heap.size w)
  have H : ((spec_WordOk.f k a0).bind fun t152 => (if t152 = true then (spec_Upper.l0 k a0 (⟨#[]⟩ : ByteArray) 0) else (some (⟨#[]⟩ : ByteArray)))) = some r := h
  clear h
  replace H := Option.bind_eq_some_iff.mp H
  obtain ⟨t152, A20, H⟩ := H
  replace H : (if t152 = true then (spec_Upper.l0 k a0 (⟨#[]⟩ : ByteArray) 0) else (some (⟨#[]⟩ : ByteArray))) = some r := H
  have A2 := Aside0.mk A20
  clear A20
  by_cases c3 : t152 = true
  · subst c3
    have H1 : (spec_Upper.l0 k a0 (⟨#[]⟩ : ByteArray) 0) = some r := by rw [if_pos rfl] at H; exact H
    clear H
    have H := H1
    clear H1
    have H' := Aside0.mk H
    clear H
    go_enter Tryd.func15, Tryd.ntmps15
    go_wp2_with (first | ((with_reducible refine gate_callee (f := 8) rfl ?_); refine goesL_ (some 8) rfl rfl Tryd.func8 (by kernel_rfl) rfl #[.string a0] rfl (by (try simp only [List.map_toArray, List.map_cons, List.map_nil]); first | done | rfl | (simp only [List.length_drop, List.length_take]; rfl)) ?_; (with_reducible refine (spec_WordOk.calls k a0 true _ A2.out).mono ?_); rintro e w' ⟨rfl, ⟨nd, rfl⟩⟩; refine ⟨_, rfl, ?_⟩))
    go_loopg [3, 4] k (fun kq v3 v4 w' => ∃ (x3_1 : ByteArray) (x4_1 : Int), v3 = .string x3_1 ∧ v4 = .int .i64 x4_1 ∧ Aside0 (spec_Upper.l0 kq a0 x3_1 x4_1 = some r) ∧ Aside0 (kq ≤ k) ∧ Aside0 (Below w.heap.size w w'))
    case atStart => exact ⟨((⟨#[]⟩ : ByteArray)), (0), (by first | rfl | (simp; done) | (simp [*]; done)), (by first | rfl | (simp; done) | (simp [*]; done)), H', ⟨Nat.le_refl _⟩, ⟨by repeat (first | (with_reducible first | exact HB.out | apply below_alloc | apply pw_below_drewN | apply below_drew1) | exact HB.out)⟩⟩
    case round =>
      clear H'
      try clear c1
      try clear p2
      try clear c3
      obtain ⟨x3_1, x4_1, rfl, rfl, HA, HK1, HB⟩ := hrel
      cases gk with
      | zero => exact absurd HA.out (by simp [spec_Upper.l0])
      | succ k1 =>
        have H := HA.out
        clear HA
        simp only [spec_Upper.l0] at H
        by_cases c4 : x4_1 < (a0.size : Int)
        · rw [if_pos c4] at H
          have c4b0 : decide (x4_1 < (a0.size : Int)) = true := decide_eq_true c4
          clear c4
          replace H := Option.bind_eq_some_iff.mp H
          obtain ⟨⟨t153, t154⟩, A50, H⟩ := H
          replace H : (if t153 ≥ 97 then (if t153 ≤ 122 then ((spec_l19Put.f (wrap64 (t153 - 32))).bind fun t155 => (if x3_1.size + t155.size ≤ 9223372036854775807 then (spec_Upper.l0 k1 a0 (x3_1 ++ t155) (wrap64 (x4_1 + t154))) else (none))) else ((spec_l1In.f t153 224 254).bind fun t156 => (if t156 = true then (if t153 = 247 then ((spec_l1In.f t153 945 969).bind fun t157 => (if t157 = true then (if t153 = 962 then ((spec_l1In.f t153 1072 1103).bind fun t158 => (if t158 = true then ((spec_l19Put.f (wrap64 (t153 - 32))).bind fun t159 => (if x3_1.size + t159.size ≤ 9223372036854775807 then (spec_Upper.l0 k1 a0 (x3_1 ++ t159) (wrap64 (x4_1 + t154))) else (none))) else ((spec_l19Put.f t153).bind fun t160 => (if x3_1.size + t160.size ≤ 9223372036854775807 then (spec_Upper.l0 k1 a0 (x3_1 ++ t160) (wrap64 (x4_1 + t154))) else (none))))) else ((spec_l19Put.f (wrap64 (t153 - 32))).bind fun t161 => (if x3_1.size + t161.size ≤ 9223372036854775807 then (spec_Upper.l0 k1 a0 (x3_1 ++ t161) (wrap64 (x4_1 + t154))) else (none)))) else ((spec_l1In.f t153 1072 1103).bind fun t162 => (if t162 = true then ((spec_l19Put.f (wrap64 (t153 - 32))).bind fun t163 => (if x3_1.size + t163.size ≤ 9223372036854775807 then (spec_Upper.l0 k1 a0 (x3_1 ++ t163) (wrap64 (x4_1 + t154))) else (none))) else ((spec_l19Put.f t153).bind fun t164 => (if x3_1.size + t164.size ≤ 9223372036854775807 then (spec_Upper.l0 k1 a0 (x3_1 ++ t164) (wrap64 (x4_1 + t154))) else (none))))))) else ((spec_l19Put.f (wrap64 (t153 - 32))).bind fun t165 => (if x3_1.size + t165.size ≤ 9223372036854775807 then (spec_Upper.l0 k1 a0 (x3_1 ++ t165) (wrap64 (x4_1 + t154))) else (none)))) else ((spec_l1In.f t153 945 969).bind fun t166 => (if t166 = true then (if t153 = 962 then ((spec_l1In.f t153 1072 1103).bind fun t167 => (if t167 = true then ((spec_l19Put.f (wrap64 (t153 - 32))).bind fun t168 => (if x3_1.size + t168.size ≤ 9223372036854775807 then (spec_Upper.l0 k1 a0 (x3_1 ++ t168) (wrap64 (x4_1 + t154))) else (none))) else ((spec_l19Put.f t153).bind fun t169 => (if x3_1.size + t169.size ≤ 9223372036854775807 then (spec_Upper.l0 k1 a0 (x3_1 ++ t169) (wrap64 (x4_1 + t154))) else (none))))) else ((spec_l19Put.f (wrap64 (t153 - 32))).bind fun t170 => (if x3_1.size + t170.size ≤ 9223372036854775807 then (spec_Upper.l0 k1 a0 (x3_1 ++ t170) (wrap64 (x4_1 + t154))) else (none)))) else ((spec_l1In.f t153 1072 1103).bind fun t171 => (if t171 = true then ((spec_l19Put.f (wrap64 (t153 - 32))).bind fun t172 => (if x3_1.size + t172.size ≤ 9223372036854775807 then (spec_Upper.l0 k1 a0 (x3_1 ++ t172) (wrap64 (x4_1 + t154))) else (none))) else ((spec_l19Put.f t153).bind fun t173 => (if x3_1.size + t173.size ≤ 9223372036854775807 then (spec_Upper.l0 k1 a0 (x3_1 ++ t173) (wrap64 (x4_1 + t154))) else (none)))))))))) else ((spec_l1In.f t153 224 254).bind fun t174 => (if t174 = true then (if t153 = 247 then ((spec_l1In.f t153 945 969).bind fun t175 => (if t175 = true then (if t153 = 962 then ((spec_l1In.f t153 1072 1103).bind fun t176 => (if t176 = true then ((spec_l19Put.f (wrap64 (t153 - 32))).bind fun t177 => (if x3_1.size + t177.size ≤ 9223372036854775807 then (spec_Upper.l0 k1 a0 (x3_1 ++ t177) (wrap64 (x4_1 + t154))) else (none))) else ((spec_l19Put.f t153).bind fun t178 => (if x3_1.size + t178.size ≤ 9223372036854775807 then (spec_Upper.l0 k1 a0 (x3_1 ++ t178) (wrap64 (x4_1 + t154))) else (none))))) else ((spec_l19Put.f (wrap64 (t153 - 32))).bind fun t179 => (if x3_1.size + t179.size ≤ 9223372036854775807 then (spec_Upper.l0 k1 a0 (x3_1 ++ t179) (wrap64 (x4_1 + t154))) else (none)))) else ((spec_l1In.f t153 1072 1103).bind fun t180 => (if t180 = true then ((spec_l19Put.f (wrap64 (t153 - 32))).bind fun t181 => (if x3_1.size + t181.size ≤ 9223372036854775807 then (spec_Upper.l0 k1 a0 (x3_1 ++ t181) (wrap64 (x4_1 + t154))) else (none))) else ((spec_l19Put.f t153).bind fun t182 => (if x3_1.size + t182.size ≤ 9223372036854775807 then (spec_Upper.l0 k1 a0 (x3_1 ++ t182) (wrap64 (x4_1 + t154))) else (none))))))) else ((spec_l19Put.f (wrap64 (t153 - 32))).bind fun t183 => (if x3_1.size + t183.size ≤ 9223372036854775807 then (spec_Upper.l0 k1 a0 (x3_1 ++ t183) (wrap64 (x4_1 + t154))) else (none)))) else ((spec_l1In.f t153 945 969).bind fun t184 => (if t184 = true then (if t153 = 962 then ((spec_l1In.f t153 1072 1103).bind fun t185 => (if t185 = true then ((spec_l19Put.f (wrap64 (t153 - 32))).bind fun t186 => (if x3_1.size + t186.size ≤ 9223372036854775807 then (spec_Upper.l0 k1 a0 (x3_1 ++ t186) (wrap64 (x4_1 + t154))) else (none))) else ((spec_l19Put.f t153).bind fun t187 => (if x3_1.size + t187.size ≤ 9223372036854775807 then (spec_Upper.l0 k1 a0 (x3_1 ++ t187) (wrap64 (x4_1 + t154))) else (none))))) else ((spec_l19Put.f (wrap64 (t153 - 32))).bind fun t188 => (if x3_1.size + t188.size ≤ 9223372036854775807 then (spec_Upper.l0 k1 a0 (x3_1 ++ t188) (wrap64 (x4_1 + t154))) else (none)))) else ((spec_l1In.f t153 1072 1103).bind fun t189 => (if t189 = true then ((spec_l19Put.f (wrap64 (t153 - 32))).bind fun t190 => (if x3_1.size + t190.size ≤ 9223372036854775807 then (spec_Upper.l0 k1 a0 (x3_1 ++ t190) (wrap64 (x4_1 + t154))) else (none))) else ((spec_l19Put.f t153).bind fun t191 => (if x3_1.size + t191.size ≤ 9223372036854775807 then (spec_Upper.l0 k1 a0 (x3_1 ++ t191) (wrap64 (x4_1 + t154))) else (none)))))))))) = some r := H
          have A5 := Aside0.mk A50
          clear A50
          by_cases c6 : t153 ≥ 97
          · rw [if_pos c6] at H
            have c6b0 : decide (97 ≤ t153) = true := decide_eq_true c6
            clear c6
            by_cases c7 : t153 ≤ 122
            · rw [if_pos c7] at H
              have c7b0 : decide (t153 ≤ 122) = true := decide_eq_true c7
              clear c7
              replace H := Option.bind_eq_some_iff.mp H
              obtain ⟨t155, A80, H⟩ := H
              replace H : (if x3_1.size + t155.size ≤ 9223372036854775807 then (spec_Upper.l0 k1 a0 (x3_1 ++ t155) (wrap64 (x4_1 + t154))) else (none)) = some r := H
              have A8 := Aside0.mk A80
              clear A80
              by_cases c9 : x3_1.size + t155.size ≤ 9223372036854775807
              · rw [if_pos c9] at H
                have c9b0 := eq_true c9
                have c9b1 : decide (x3_1.size + t155.size ≤ 9223372036854775807) = true := decide_eq_true c9
                try have c9b2 : (9223372036854775807 < x3_1.size + t155.size) = False := eq_false (Nat.not_lt.2 c9)
                have H' := Aside0.mk H
                clear H
                go_wp2_with (first | ((with_reducible refine gate_callee (f := 21) rfl ?_); refine goesL_ (some 17) rfl rfl Tryd.func21 (by kernel_rfl) rfl #[.string a0, .int .i64 x4_1] rfl (by (try simp only [List.map_toArray, List.map_cons, List.map_nil]); first | done | rfl | (simp only [List.length_drop, List.length_take]; rfl)) ?_; (with_reducible refine (spec_l19Rune.calls a0 x4_1 t153 t154 _ A5.out).mono ?_); rintro e w' ⟨rfl, ⟨nd, rfl⟩⟩; refine ⟨_, rfl, ?_⟩) | ((with_reducible refine gate_callee (f := 34) rfl ?_); refine goesL_ (some 50) rfl rfl Tryd.func34 (by kernel_rfl) rfl #[.int .i64 (wrap64 (t153 - 32))] rfl (by (try simp only [List.map_toArray, List.map_cons, List.map_nil]); first | done | rfl | (simp only [List.length_drop, List.length_take]; rfl)) ?_; (with_reducible refine (spec_l19Put.calls (wrap64 (t153 - 32)) t155 _ A8.out).mono ?_); rintro e w10 ⟨rfl, hb⟩; refine ⟨_, rfl, ?_⟩; have n0_ := Aside0.mk (below_step (by repeat (first | (with_reducible first | exact HB.out | apply below_alloc | apply pw_below_drewN | apply below_drew1) | exact HB.out)) hb); clear HB; have HB := n0_; clear n0_; (try clear hb); (try clear hb2); (try clear hk); (try clear hi)))
                go_roundg k1
                case measure => have := HK1.out; omega
                case rel => exact ⟨(x3_1 ++ t155), (wrap64 (x4_1 + t154)), (by first | rfl | (simp; done) | (simp [*]; done)), (by first | rfl | (simp; done) | (simp [*]; done)), H', ⟨by have := HK1.out; omega⟩, ⟨by repeat (first | (with_reducible first | exact HB.out | apply below_alloc | apply pw_below_drewN | apply below_drew1) | exact HB.out)⟩⟩
              · rw [if_neg c9] at H
                exact absurd H (by simp)
            · rw [if_neg c7] at H
              have c7b0 : decide (t153 ≤ 122) = false := decide_eq_false c7
              clear c7
              replace H := Option.bind_eq_some_iff.mp H
              obtain ⟨t156, A110, H⟩ := H
              replace H : (if t156 = true then (if t153 = 247 then ((spec_l1In.f t153 945 969).bind fun t157 => (if t157 = true then (if t153 = 962 then ((spec_l1In.f t153 1072 1103).bind fun t158 => (if t158 = true then ((spec_l19Put.f (wrap64 (t153 - 32))).bind fun t159 => (if x3_1.size + t159.size ≤ 9223372036854775807 then (spec_Upper.l0 k1 a0 (x3_1 ++ t159) (wrap64 (x4_1 + t154))) else (none))) else ((spec_l19Put.f t153).bind fun t160 => (if x3_1.size + t160.size ≤ 9223372036854775807 then (spec_Upper.l0 k1 a0 (x3_1 ++ t160) (wrap64 (x4_1 + t154))) else (none))))) else ((spec_l19Put.f (wrap64 (t153 - 32))).bind fun t161 => (if x3_1.size + t161.size ≤ 9223372036854775807 then (spec_Upper.l0 k1 a0 (x3_1 ++ t161) (wrap64 (x4_1 + t154))) else (none)))) else ((spec_l1In.f t153 1072 1103).bind fun t162 => (if t162 = true then ((spec_l19Put.f (wrap64 (t153 - 32))).bind fun t163 => (if x3_1.size + t163.size ≤ 9223372036854775807 then (spec_Upper.l0 k1 a0 (x3_1 ++ t163) (wrap64 (x4_1 + t154))) else (none))) else ((spec_l19Put.f t153).bind fun t164 => (if x3_1.size + t164.size ≤ 9223372036854775807 then (spec_Upper.l0 k1 a0 (x3_1 ++ t164) (wrap64 (x4_1 + t154))) else (none))))))) else ((spec_l19Put.f (wrap64 (t153 - 32))).bind fun t165 => (if x3_1.size + t165.size ≤ 9223372036854775807 then (spec_Upper.l0 k1 a0 (x3_1 ++ t165) (wrap64 (x4_1 + t154))) else (none)))) else ((spec_l1In.f t153 945 969).bind fun t166 => (if t166 = true then (if t153 = 962 then ((spec_l1In.f t153 1072 1103).bind fun t167 => (if t167 = true then ((spec_l19Put.f (wrap64 (t153 - 32))).bind fun t168 => (if x3_1.size + t168.size ≤ 9223372036854775807 then (spec_Upper.l0 k1 a0 (x3_1 ++ t168) (wrap64 (x4_1 + t154))) else (none))) else ((spec_l19Put.f t153).bind fun t169 => (if x3_1.size + t169.size ≤ 9223372036854775807 then (spec_Upper.l0 k1 a0 (x3_1 ++ t169) (wrap64 (x4_1 + t154))) else (none))))) else ((spec_l19Put.f (wrap64 (t153 - 32))).bind fun t170 => (if x3_1.size + t170.size ≤ 9223372036854775807 then (spec_Upper.l0 k1 a0 (x3_1 ++ t170) (wrap64 (x4_1 + t154))) else (none)))) else ((spec_l1In.f t153 1072 1103).bind fun t171 => (if t171 = true then ((spec_l19Put.f (wrap64 (t153 - 32))).bind fun t172 => (if x3_1.size + t172.size ≤ 9223372036854775807 then (spec_Upper.l0 k1 a0 (x3_1 ++ t172) (wrap64 (x4_1 + t154))) else (none))) else ((spec_l19Put.f t153).bind fun t173 => (if x3_1.size + t173.size ≤ 9223372036854775807 then (spec_Upper.l0 k1 a0 (x3_1 ++ t173) (wrap64 (x4_1 + t154))) else (none)))))))) = some r := H
              have A11 := Aside0.mk A110
              clear A110
              by_cases c12 : t156 = true
              · subst c12
                have H1 : (if t153 = 247 then ((spec_l1In.f t153 945 969).bind fun t157 => (if t157 = true then (if t153 = 962 then ((spec_l1In.f t153 1072 1103).bind fun t158 => (if t158 = true then ((spec_l19Put.f (wrap64 (t153 - 32))).bind fun t159 => (if x3_1.size + t159.size ≤ 9223372036854775807 then (spec_Upper.l0 k1 a0 (x3_1 ++ t159) (wrap64 (x4_1 + t154))) else (none))) else ((spec_l19Put.f t153).bind fun t160 => (if x3_1.size + t160.size ≤ 9223372036854775807 then (spec_Upper.l0 k1 a0 (x3_1 ++ t160) (wrap64 (x4_1 + t154))) else (none))))) else ((spec_l19Put.f (wrap64 (t153 - 32))).bind fun t161 => (if x3_1.size + t161.size ≤ 9223372036854775807 then (spec_Upper.l0 k1 a0 (x3_1 ++ t161) (wrap64 (x4_1 + t154))) else (none)))) else ((spec_l1In.f t153 1072 1103).bind fun t162 => (if t162 = true then ((spec_l19Put.f (wrap64 (t153 - 32))).bind fun t163 => (if x3_1.size + t163.size ≤ 9223372036854775807 then (spec_Upper.l0 k1 a0 (x3_1 ++ t163) (wrap64 (x4_1 + t154))) else (none))) else ((spec_l19Put.f t153).bind fun t164 => (if x3_1.size + t164.size ≤ 9223372036854775807 then (spec_Upper.l0 k1 a0 (x3_1 ++ t164) (wrap64 (x4_1 + t154))) else (none))))))) else ((spec_l19Put.f (wrap64 (t153 - 32))).bind fun t165 => (if x3_1.size + t165.size ≤ 9223372036854775807 then (spec_Upper.l0 k1 a0 (x3_1 ++ t165) (wrap64 (x4_1 + t154))) else (none)))) = some r := by rw [if_pos rfl] at H; exact H
                clear H
                have H := H1
                clear H1
                by_cases c13 : t153 = 247
                · rw [if_pos c13] at H
                  have c13b0 : (t153 == 247) = true := beq_iff_eq.mpr c13
                  have c13b1 : (t153 != 247) = false := bne_eq_false_iff_eq.mpr c13
                  clear c13
                  replace H := Option.bind_eq_some_iff.mp H
                  obtain ⟨t157, A140, H⟩ := H
                  replace H : (if t157 = true then (if t153 = 962 then ((spec_l1In.f t153 1072 1103).bind fun t158 => (if t158 = true then ((spec_l19Put.f (wrap64 (t153 - 32))).bind fun t159 => (if x3_1.size + t159.size ≤ 9223372036854775807 then (spec_Upper.l0 k1 a0 (x3_1 ++ t159) (wrap64 (x4_1 + t154))) else (none))) else ((spec_l19Put.f t153).bind fun t160 => (if x3_1.size + t160.size ≤ 9223372036854775807 then (spec_Upper.l0 k1 a0 (x3_1 ++ t160) (wrap64 (x4_1 + t154))) else (none))))) else ((spec_l19Put.f (wrap64 (t153 - 32))).bind fun t161 => (if x3_1.size + t161.size ≤ 9223372036854775807 then (spec_Upper.l0 k1 a0 (x3_1 ++ t161) (wrap64 (x4_1 + t154))) else (none)))) else ((spec_l1In.f t153 1072 1103).bind fun t162 => (if t162 = true then ((spec_l19Put.f (wrap64 (t153 - 32))).bind fun t163 => (if x3_1.size + t163.size ≤ 9223372036854775807 then (spec_Upper.l0 k1 a0 (x3_1 ++ t163) (wrap64 (x4_1 + t154))) else (none))) else ((spec_l19Put.f t153).bind fun t164 => (if x3_1.size + t164.size ≤ 9223372036854775807 then (spec_Upper.l0 k1 a0 (x3_1 ++ t164) (wrap64 (x4_1 + t154))) else (none)))))) = some r := H
                  have A14 := Aside0.mk A140
                  clear A140
                  by_cases c15 : t157 = true
                  · subst c15
                    have H1 : (if t153 = 962 then ((spec_l1In.f t153 1072 1103).bind fun t158 => (if t158 = true then ((spec_l19Put.f (wrap64 (t153 - 32))).bind fun t159 => (if x3_1.size + t159.size ≤ 9223372036854775807 then (spec_Upper.l0 k1 a0 (x3_1 ++ t159) (wrap64 (x4_1 + t154))) else (none))) else ((spec_l19Put.f t153).bind fun t160 => (if x3_1.size + t160.size ≤ 9223372036854775807 then (spec_Upper.l0 k1 a0 (x3_1 ++ t160) (wrap64 (x4_1 + t154))) else (none))))) else ((spec_l19Put.f (wrap64 (t153 - 32))).bind fun t161 => (if x3_1.size + t161.size ≤ 9223372036854775807 then (spec_Upper.l0 k1 a0 (x3_1 ++ t161) (wrap64 (x4_1 + t154))) else (none)))) = some r := by rw [if_pos rfl] at H; exact H
                    clear H
                    have H := H1
                    clear H1
                    by_cases c16 : t153 = 962
                    · rw [if_pos c16] at H
                      have c16b0 : (t153 == 962) = true := beq_iff_eq.mpr c16
                      have c16b1 : (t153 != 962) = false := bne_eq_false_iff_eq.mpr c16
                      clear c16
                      replace H := Option.bind_eq_some_iff.mp H
                      obtain ⟨t158, A170, H⟩ := H
                      replace H : (if t158 = true then ((spec_l19Put.f (wrap64 (t153 - 32))).bind fun t159 => (if x3_1.size + t159.size ≤ 9223372036854775807 then (spec_Upper.l0 k1 a0 (x3_1 ++ t159) (wrap64 (x4_1 + t154))) else (none))) else ((spec_l19Put.f t153).bind fun t160 => (if x3_1.size + t160.size ≤ 9223372036854775807 then (spec_Upper.l0 k1 a0 (x3_1 ++ t160) (wrap64 (x4_1 + t154))) else (none)))) = some r := H
                      have A17 := Aside0.mk A170
                      clear A170
                      by_cases c18 : t158 = true
                      · subst c18
                        have H1 : ((spec_l19Put.f (wrap64 (t153 - 32))).bind fun t159 => (if x3_1.size + t159.size ≤ 9223372036854775807 then (spec_Upper.l0 k1 a0 (x3_1 ++ t159) (wrap64 (x4_1 + t154))) else (none))) = some r := by rw [if_pos rfl] at H; exact H
                        clear H
                        have H := H1
                        clear H1
                        replace H := Option.bind_eq_some_iff.mp H
                        obtain ⟨t159, A190, H⟩ := H
                        replace H : (if x3_1.size + t159.size ≤ 9223372036854775807 then (spec_Upper.l0 k1 a0 (x3_1 ++ t159) (wrap64 (x4_1 + t154))) else (none)) = some r := H
                        have A19 := Aside0.mk A190
                        clear A190
                        by_cases c20 : x3_1.size + t159.size ≤ 9223372036854775807
                        · rw [if_pos c20] at H
                          have c20b0 := eq_true c20
                          have c20b1 : decide (x3_1.size + t159.size ≤ 9223372036854775807) = true := decide_eq_true c20
                          try have c20b2 : (9223372036854775807 < x3_1.size + t159.size) = False := eq_false (Nat.not_lt.2 c20)
                          have H' := Aside0.mk H
                          clear H
                          go_wp2_with (first | ((with_reducible refine gate_callee (f := 21) rfl ?_); refine goesL_ (some 17) rfl rfl Tryd.func21 (by kernel_rfl) rfl #[.string a0, .int .i64 x4_1] rfl (by (try simp only [List.map_toArray, List.map_cons, List.map_nil]); first | done | rfl | (simp only [List.length_drop, List.length_take]; rfl)) ?_; (with_reducible refine (spec_l19Rune.calls a0 x4_1 t153 t154 _ A5.out).mono ?_); rintro e w' ⟨rfl, ⟨nd, rfl⟩⟩; refine ⟨_, rfl, ?_⟩) | (go_at_call 23; (with_reducible refine (spec_l1In.calls t153 224 254 true _ A11.out).mono ?_); rintro e w' ⟨rfl, ⟨nd, rfl⟩⟩) | (go_at_call 23; (with_reducible refine (spec_l1In.calls t153 945 969 true _ A14.out).mono ?_); rintro e w' ⟨rfl, ⟨nd, rfl⟩⟩) | (go_at_call 23; (with_reducible refine (spec_l1In.calls t153 1072 1103 true _ A17.out).mono ?_); rintro e w' ⟨rfl, ⟨nd, rfl⟩⟩) | ((with_reducible refine gate_callee (f := 34) rfl ?_); refine goesL_ (some 50) rfl rfl Tryd.func34 (by kernel_rfl) rfl #[.int .i64 (wrap64 (t153 - 32))] rfl (by (try simp only [List.map_toArray, List.map_cons, List.map_nil]); first | done | rfl | (simp only [List.length_drop, List.length_take]; rfl)) ?_; (with_reducible refine (spec_l19Put.calls (wrap64 (t153 - 32)) t159 _ A19.out).mono ?_); rintro e w21 ⟨rfl, hb⟩; refine ⟨_, rfl, ?_⟩; have n0_ := Aside0.mk (below_step (by repeat (first | (with_reducible first | exact HB.out | apply below_alloc | apply pw_below_drewN | apply below_drew1) | exact HB.out)) hb); clear HB; have HB := n0_; clear n0_; (try clear hb); (try clear hb2); (try clear hk); (try clear hi)))
                          go_roundg k1
                          case measure => have := HK1.out; omega
                          case rel => exact ⟨(x3_1 ++ t159), (wrap64 (x4_1 + t154)), (by first | rfl | (simp; done) | (simp [*]; done)), (by first | rfl | (simp; done) | (simp [*]; done)), H', ⟨by have := HK1.out; omega⟩, ⟨by repeat (first | (with_reducible first | exact HB.out | apply below_alloc | apply pw_below_drewN | apply below_drew1) | exact HB.out)⟩⟩
                        · rw [if_neg c20] at H
                          exact absurd H (by simp)
                      · replace c18 := Bool.eq_false_iff.mpr c18
                        subst c18
                        have H1 : ((spec_l19Put.f t153).bind fun t160 => (if x3_1.size + t160.size ≤ 9223372036854775807 then (spec_Upper.l0 k1 a0 (x3_1 ++ t160) (wrap64 (x4_1 + t154))) else (none))) = some r := by rw [if_neg (show ¬ (false = true) by decide)] at H; exact H
                        clear H
                        have H := H1
                        clear H1
                        replace H := Option.bind_eq_some_iff.mp H
                        obtain ⟨t160, A220, H⟩ := H
                        replace H : (if x3_1.size + t160.size ≤ 9223372036854775807 then (spec_Upper.l0 k1 a0 (x3_1 ++ t160) (wrap64 (x4_1 + t154))) else (none)) = some r := H
                        have A22 := Aside0.mk A220
                        clear A220
                        by_cases c23 : x3_1.size + t160.size ≤ 9223372036854775807
                        · rw [if_pos c23] at H
                          have c23b0 := eq_true c23
                          have c23b1 : decide (x3_1.size + t160.size ≤ 9223372036854775807) = true := decide_eq_true c23
                          try have c23b2 : (9223372036854775807 < x3_1.size + t160.size) = False := eq_false (Nat.not_lt.2 c23)
                          have H' := Aside0.mk H
                          clear H
                          go_wp2_with (first | ((with_reducible refine gate_callee (f := 21) rfl ?_); refine goesL_ (some 17) rfl rfl Tryd.func21 (by kernel_rfl) rfl #[.string a0, .int .i64 x4_1] rfl (by (try simp only [List.map_toArray, List.map_cons, List.map_nil]); first | done | rfl | (simp only [List.length_drop, List.length_take]; rfl)) ?_; (with_reducible refine (spec_l19Rune.calls a0 x4_1 t153 t154 _ A5.out).mono ?_); rintro e w' ⟨rfl, ⟨nd, rfl⟩⟩; refine ⟨_, rfl, ?_⟩) | (go_at_call 23; (with_reducible refine (spec_l1In.calls t153 224 254 true _ A11.out).mono ?_); rintro e w' ⟨rfl, ⟨nd, rfl⟩⟩) | (go_at_call 23; (with_reducible refine (spec_l1In.calls t153 945 969 true _ A14.out).mono ?_); rintro e w' ⟨rfl, ⟨nd, rfl⟩⟩) | (go_at_call 23; (with_reducible refine (spec_l1In.calls t153 1072 1103 false _ A17.out).mono ?_); rintro e w' ⟨rfl, ⟨nd, rfl⟩⟩) | ((with_reducible refine gate_callee (f := 34) rfl ?_); refine goesL_ (some 50) rfl rfl Tryd.func34 (by kernel_rfl) rfl #[.int .i64 t153] rfl (by (try simp only [List.map_toArray, List.map_cons, List.map_nil]); first | done | rfl | (simp only [List.length_drop, List.length_take]; rfl)) ?_; (with_reducible refine (spec_l19Put.calls t153 t160 _ A22.out).mono ?_); rintro e w24 ⟨rfl, hb⟩; refine ⟨_, rfl, ?_⟩; have n0_ := Aside0.mk (below_step (by repeat (first | (with_reducible first | exact HB.out | apply below_alloc | apply pw_below_drewN | apply below_drew1) | exact HB.out)) hb); clear HB; have HB := n0_; clear n0_; (try clear hb); (try clear hb2); (try clear hk); (try clear hi)))
                          go_roundg k1
                          case measure => have := HK1.out; omega
                          case rel => exact ⟨(x3_1 ++ t160), (wrap64 (x4_1 + t154)), (by first | rfl | (simp; done) | (simp [*]; done)), (by first | rfl | (simp; done) | (simp [*]; done)), H', ⟨by have := HK1.out; omega⟩, ⟨by repeat (first | (with_reducible first | exact HB.out | apply below_alloc | apply pw_below_drewN | apply below_drew1) | exact HB.out)⟩⟩
                        · rw [if_neg c23] at H
                          exact absurd H (by simp)
                    · rw [if_neg c16] at H
                      have c16b0 : (t153 == 962) = false := beq_eq_false_iff_ne.mpr c16
                      have c16b1 : (t153 != 962) = true := bne_iff_ne.mpr c16
                      replace H := Option.bind_eq_some_iff.mp H
                      obtain ⟨t161, A250, H⟩ := H
                      replace H : (if x3_1.size + t161.size ≤ 9223372036854775807 then (spec_Upper.l0 k1 a0 (x3_1 ++ t161) (wrap64 (x4_1 + t154))) else (none)) = some r := H
                      have A25 := Aside0.mk A250
                      clear A250
                      by_cases c26 : x3_1.size + t161.size ≤ 9223372036854775807
                      · rw [if_pos c26] at H
                        have c26b0 := eq_true c26
                        have c26b1 : decide (x3_1.size + t161.size ≤ 9223372036854775807) = true := decide_eq_true c26
                        try have c26b2 : (9223372036854775807 < x3_1.size + t161.size) = False := eq_false (Nat.not_lt.2 c26)
                        have H' := Aside0.mk H
                        clear H
                        go_wp2_with (first | ((with_reducible refine gate_callee (f := 21) rfl ?_); refine goesL_ (some 17) rfl rfl Tryd.func21 (by kernel_rfl) rfl #[.string a0, .int .i64 x4_1] rfl (by (try simp only [List.map_toArray, List.map_cons, List.map_nil]); first | done | rfl | (simp only [List.length_drop, List.length_take]; rfl)) ?_; (with_reducible refine (spec_l19Rune.calls a0 x4_1 t153 t154 _ A5.out).mono ?_); rintro e w' ⟨rfl, ⟨nd, rfl⟩⟩; refine ⟨_, rfl, ?_⟩) | (go_at_call 23; (with_reducible refine (spec_l1In.calls t153 224 254 true _ A11.out).mono ?_); rintro e w' ⟨rfl, ⟨nd, rfl⟩⟩) | (go_at_call 23; (with_reducible refine (spec_l1In.calls t153 945 969 true _ A14.out).mono ?_); rintro e w' ⟨rfl, ⟨nd, rfl⟩⟩) | ((with_reducible refine gate_callee (f := 34) rfl ?_); refine goesL_ (some 50) rfl rfl Tryd.func34 (by kernel_rfl) rfl #[.int .i64 (wrap64 (t153 - 32))] rfl (by (try simp only [List.map_toArray, List.map_cons, List.map_nil]); first | done | rfl | (simp only [List.length_drop, List.length_take]; rfl)) ?_; (with_reducible refine (spec_l19Put.calls (wrap64 (t153 - 32)) t161 _ A25.out).mono ?_); rintro e w27 ⟨rfl, hb⟩; refine ⟨_, rfl, ?_⟩; have n0_ := Aside0.mk (below_step (by repeat (first | (with_reducible first | exact HB.out | apply below_alloc | apply pw_below_drewN | apply below_drew1) | exact HB.out)) hb); clear HB; have HB := n0_; clear n0_; (try clear hb); (try clear hb2); (try clear hk); (try clear hi)))
                        go_roundg k1
                        case measure => have := HK1.out; omega
                        case rel => exact ⟨(x3_1 ++ t161), (wrap64 (x4_1 + t154)), (by first | rfl | (simp; done) | (simp [*]; done)), (by first | rfl | (simp; done) | (simp [*]; done)), H', ⟨by have := HK1.out; omega⟩, ⟨by repeat (first | (with_reducible first | exact HB.out | apply below_alloc | apply pw_below_drewN | apply below_drew1) | exact HB.out)⟩⟩
                      · rw [if_neg c26] at H
                        exact absurd H (by simp)
                  · replace c15 := Bool.eq_false_iff.mpr c15
                    subst c15
                    have H1 : ((spec_l1In.f t153 1072 1103).bind fun t162 => (if t162 = true then ((spec_l19Put.f (wrap64 (t153 - 32))).bind fun t163 => (if x3_1.size + t163.size ≤ 9223372036854775807 then (spec_Upper.l0 k1 a0 (x3_1 ++ t163) (wrap64 (x4_1 + t154))) else (none))) else ((spec_l19Put.f t153).bind fun t164 => (if x3_1.size + t164.size ≤ 9223372036854775807 then (spec_Upper.l0 k1 a0 (x3_1 ++ t164) (wrap64 (x4_1 + t154))) else (none))))) = some r := by rw [if_neg (show ¬ (false = true) by decide)] at H; exact H
                    clear H
                    have H := H1
                    clear H1
                    replace H := Option.bind_eq_some_iff.mp H
                    obtain ⟨t162, A280, H⟩ := H
                    replace H : (if t162 = true then ((spec_l19Put.f (wrap64 (t153 - 32))).bind fun t163 => (if x3_1.size + t163.size ≤ 9223372036854775807 then (spec_Upper.l0 k1 a0 (x3_1 ++ t163) (wrap64 (x4_1 + t154))) else (none))) else ((spec_l19Put.f t153).bind fun t164 => (if x3_1.size + t164.size ≤ 9223372036854775807 then (spec_Upper.l0 k1 a0 (x3_1 ++ t164) (wrap64 (x4_1 + t154))) else (none)))) = some r := H
                    have A28 := Aside0.mk A280
                    clear A280
                    by_cases c29 : t162 = true
                    · subst c29
                      have H1 : ((spec_l19Put.f (wrap64 (t153 - 32))).bind fun t163 => (if x3_1.size + t163.size ≤ 9223372036854775807 then (spec_Upper.l0 k1 a0 (x3_1 ++ t163) (wrap64 (x4_1 + t154))) else (none))) = some r := by rw [if_pos rfl] at H; exact H
                      clear H
                      have H := H1
                      clear H1
                      replace H := Option.bind_eq_some_iff.mp H
                      obtain ⟨t163, A300, H⟩ := H
                      replace H : (if x3_1.size + t163.size ≤ 9223372036854775807 then (spec_Upper.l0 k1 a0 (x3_1 ++ t163) (wrap64 (x4_1 + t154))) else (none)) = some r := H
                      have A30 := Aside0.mk A300
                      clear A300
                      by_cases c31 : x3_1.size + t163.size ≤ 9223372036854775807
                      · rw [if_pos c31] at H
                        have c31b0 := eq_true c31
                        have c31b1 : decide (x3_1.size + t163.size ≤ 9223372036854775807) = true := decide_eq_true c31
                        try have c31b2 : (9223372036854775807 < x3_1.size + t163.size) = False := eq_false (Nat.not_lt.2 c31)
                        have H' := Aside0.mk H
                        clear H
                        go_wp2_with (first | ((with_reducible refine gate_callee (f := 21) rfl ?_); refine goesL_ (some 17) rfl rfl Tryd.func21 (by kernel_rfl) rfl #[.string a0, .int .i64 x4_1] rfl (by (try simp only [List.map_toArray, List.map_cons, List.map_nil]); first | done | rfl | (simp only [List.length_drop, List.length_take]; rfl)) ?_; (with_reducible refine (spec_l19Rune.calls a0 x4_1 t153 t154 _ A5.out).mono ?_); rintro e w' ⟨rfl, ⟨nd, rfl⟩⟩; refine ⟨_, rfl, ?_⟩) | (go_at_call 23; (with_reducible refine (spec_l1In.calls t153 224 254 true _ A11.out).mono ?_); rintro e w' ⟨rfl, ⟨nd, rfl⟩⟩) | (go_at_call 23; (with_reducible refine (spec_l1In.calls t153 945 969 false _ A14.out).mono ?_); rintro e w' ⟨rfl, ⟨nd, rfl⟩⟩) | (go_at_call 23; (with_reducible refine (spec_l1In.calls t153 1072 1103 true _ A28.out).mono ?_); rintro e w' ⟨rfl, ⟨nd, rfl⟩⟩) | ((with_reducible refine gate_callee (f := 34) rfl ?_); refine goesL_ (some 50) rfl rfl Tryd.func34 (by kernel_rfl) rfl #[.int .i64 (wrap64 (t153 - 32))] rfl (by (try simp only [List.map_toArray, List.map_cons, List.map_nil]); first | done | rfl | (simp only [List.length_drop, List.length_take]; rfl)) ?_; (with_reducible refine (spec_l19Put.calls (wrap64 (t153 - 32)) t163 _ A30.out).mono ?_); rintro e w32 ⟨rfl, hb⟩; refine ⟨_, rfl, ?_⟩; have n0_ := Aside0.mk (below_step (by repeat (first | (with_reducible first | exact HB.out | apply below_alloc | apply pw_below_drewN | apply below_drew1) | exact HB.out)) hb); clear HB; have HB := n0_; clear n0_; (try clear hb); (try clear hb2); (try clear hk); (try clear hi)))
                        go_roundg k1
                        case measure => have := HK1.out; omega
                        case rel => exact ⟨(x3_1 ++ t163), (wrap64 (x4_1 + t154)), (by first | rfl | (simp; done) | (simp [*]; done)), (by first | rfl | (simp; done) | (simp [*]; done)), H', ⟨by have := HK1.out; omega⟩, ⟨by repeat (first | (with_reducible first | exact HB.out | apply below_alloc | apply pw_below_drewN | apply below_drew1) | exact HB.out)⟩⟩
                      · rw [if_neg c31] at H
                        exact absurd H (by simp)
                    · replace c29 := Bool.eq_false_iff.mpr c29
                      subst c29
                      have H1 : ((spec_l19Put.f t153).bind fun t164 => (if x3_1.size + t164.size ≤ 9223372036854775807 then (spec_Upper.l0 k1 a0 (x3_1 ++ t164) (wrap64 (x4_1 + t154))) else (none))) = some r := by rw [if_neg (show ¬ (false = true) by decide)] at H; exact H
                      clear H
                      have H := H1
                      clear H1
                      replace H := Option.bind_eq_some_iff.mp H
                      obtain ⟨t164, A330, H⟩ := H
                      replace H : (if x3_1.size + t164.size ≤ 9223372036854775807 then (spec_Upper.l0 k1 a0 (x3_1 ++ t164) (wrap64 (x4_1 + t154))) else (none)) = some r := H
                      have A33 := Aside0.mk A330
                      clear A330
                      by_cases c34 : x3_1.size + t164.size ≤ 9223372036854775807
                      · rw [if_pos c34] at H
                        have c34b0 := eq_true c34
                        have c34b1 : decide (x3_1.size + t164.size ≤ 9223372036854775807) = true := decide_eq_true c34
                        try have c34b2 : (9223372036854775807 < x3_1.size + t164.size) = False := eq_false (Nat.not_lt.2 c34)
                        have H' := Aside0.mk H
                        clear H
                        go_wp2_with (first | ((with_reducible refine gate_callee (f := 21) rfl ?_); refine goesL_ (some 17) rfl rfl Tryd.func21 (by kernel_rfl) rfl #[.string a0, .int .i64 x4_1] rfl (by (try simp only [List.map_toArray, List.map_cons, List.map_nil]); first | done | rfl | (simp only [List.length_drop, List.length_take]; rfl)) ?_; (with_reducible refine (spec_l19Rune.calls a0 x4_1 t153 t154 _ A5.out).mono ?_); rintro e w' ⟨rfl, ⟨nd, rfl⟩⟩; refine ⟨_, rfl, ?_⟩) | (go_at_call 23; (with_reducible refine (spec_l1In.calls t153 224 254 true _ A11.out).mono ?_); rintro e w' ⟨rfl, ⟨nd, rfl⟩⟩) | (go_at_call 23; (with_reducible refine (spec_l1In.calls t153 945 969 false _ A14.out).mono ?_); rintro e w' ⟨rfl, ⟨nd, rfl⟩⟩) | (go_at_call 23; (with_reducible refine (spec_l1In.calls t153 1072 1103 false _ A28.out).mono ?_); rintro e w' ⟨rfl, ⟨nd, rfl⟩⟩) | ((with_reducible refine gate_callee (f := 34) rfl ?_); refine goesL_ (some 50) rfl rfl Tryd.func34 (by kernel_rfl) rfl #[.int .i64 t153] rfl (by (try simp only [List.map_toArray, List.map_cons, List.map_nil]); first | done | rfl | (simp only [List.length_drop, List.length_take]; rfl)) ?_; (with_reducible refine (spec_l19Put.calls t153 t164 _ A33.out).mono ?_); rintro e w35 ⟨rfl, hb⟩; refine ⟨_, rfl, ?_⟩; have n0_ := Aside0.mk (below_step (by repeat (first | (with_reducible first | exact HB.out | apply below_alloc | apply pw_below_drewN | apply below_drew1) | exact HB.out)) hb); clear HB; have HB := n0_; clear n0_; (try clear hb); (try clear hb2); (try clear hk); (try clear hi)))
                        go_roundg k1
                        case measure => have := HK1.out; omega
                        case rel => exact ⟨(x3_1 ++ t164), (wrap64 (x4_1 + t154)), (by first | rfl | (simp; done) | (simp [*]; done)), (by first | rfl | (simp; done) | (simp [*]; done)), H', ⟨by have := HK1.out; omega⟩, ⟨by repeat (first | (with_reducible first | exact HB.out | apply below_alloc | apply pw_below_drewN | apply below_drew1) | exact HB.out)⟩⟩
                      · rw [if_neg c34] at H
                        exact absurd H (by simp)
                · rw [if_neg c13] at H
                  have c13b0 : (t153 == 247) = false := beq_eq_false_iff_ne.mpr c13
                  have c13b1 : (t153 != 247) = true := bne_iff_ne.mpr c13
                  replace H := Option.bind_eq_some_iff.mp H
                  obtain ⟨t165, A360, H⟩ := H
                  replace H : (if x3_1.size + t165.size ≤ 9223372036854775807 then (spec_Upper.l0 k1 a0 (x3_1 ++ t165) (wrap64 (x4_1 + t154))) else (none)) = some r := H
                  have A36 := Aside0.mk A360
                  clear A360
                  by_cases c37 : x3_1.size + t165.size ≤ 9223372036854775807
                  · rw [if_pos c37] at H
                    have c37b0 := eq_true c37
                    have c37b1 : decide (x3_1.size + t165.size ≤ 9223372036854775807) = true := decide_eq_true c37
                    try have c37b2 : (9223372036854775807 < x3_1.size + t165.size) = False := eq_false (Nat.not_lt.2 c37)
                    have H' := Aside0.mk H
                    clear H
                    go_wp2_with (first | ((with_reducible refine gate_callee (f := 21) rfl ?_); refine goesL_ (some 17) rfl rfl Tryd.func21 (by kernel_rfl) rfl #[.string a0, .int .i64 x4_1] rfl (by (try simp only [List.map_toArray, List.map_cons, List.map_nil]); first | done | rfl | (simp only [List.length_drop, List.length_take]; rfl)) ?_; (with_reducible refine (spec_l19Rune.calls a0 x4_1 t153 t154 _ A5.out).mono ?_); rintro e w' ⟨rfl, ⟨nd, rfl⟩⟩; refine ⟨_, rfl, ?_⟩) | (go_at_call 23; (with_reducible refine (spec_l1In.calls t153 224 254 true _ A11.out).mono ?_); rintro e w' ⟨rfl, ⟨nd, rfl⟩⟩) | ((with_reducible refine gate_callee (f := 34) rfl ?_); refine goesL_ (some 50) rfl rfl Tryd.func34 (by kernel_rfl) rfl #[.int .i64 (wrap64 (t153 - 32))] rfl (by (try simp only [List.map_toArray, List.map_cons, List.map_nil]); first | done | rfl | (simp only [List.length_drop, List.length_take]; rfl)) ?_; (with_reducible refine (spec_l19Put.calls (wrap64 (t153 - 32)) t165 _ A36.out).mono ?_); rintro e w38 ⟨rfl, hb⟩; refine ⟨_, rfl, ?_⟩; have n0_ := Aside0.mk (below_step (by repeat (first | (with_reducible first | exact HB.out | apply below_alloc | apply pw_below_drewN | apply below_drew1) | exact HB.out)) hb); clear HB; have HB := n0_; clear n0_; (try clear hb); (try clear hb2); (try clear hk); (try clear hi)))
                    go_roundg k1
                    case measure => have := HK1.out; omega
                    case rel => exact ⟨(x3_1 ++ t165), (wrap64 (x4_1 + t154)), (by first | rfl | (simp; done) | (simp [*]; done)), (by first | rfl | (simp; done) | (simp [*]; done)), H', ⟨by have := HK1.out; omega⟩, ⟨by repeat (first | (with_reducible first | exact HB.out | apply below_alloc | apply pw_below_drewN | apply below_drew1) | exact HB.out)⟩⟩
                  · rw [if_neg c37] at H
                    exact absurd H (by simp)
              · replace c12 := Bool.eq_false_iff.mpr c12
                subst c12
                have H1 : ((spec_l1In.f t153 945 969).bind fun t166 => (if t166 = true then (if t153 = 962 then ((spec_l1In.f t153 1072 1103).bind fun t167 => (if t167 = true then ((spec_l19Put.f (wrap64 (t153 - 32))).bind fun t168 => (if x3_1.size + t168.size ≤ 9223372036854775807 then (spec_Upper.l0 k1 a0 (x3_1 ++ t168) (wrap64 (x4_1 + t154))) else (none))) else ((spec_l19Put.f t153).bind fun t169 => (if x3_1.size + t169.size ≤ 9223372036854775807 then (spec_Upper.l0 k1 a0 (x3_1 ++ t169) (wrap64 (x4_1 + t154))) else (none))))) else ((spec_l19Put.f (wrap64 (t153 - 32))).bind fun t170 => (if x3_1.size + t170.size ≤ 9223372036854775807 then (spec_Upper.l0 k1 a0 (x3_1 ++ t170) (wrap64 (x4_1 + t154))) else (none)))) else ((spec_l1In.f t153 1072 1103).bind fun t171 => (if t171 = true then ((spec_l19Put.f (wrap64 (t153 - 32))).bind fun t172 => (if x3_1.size + t172.size ≤ 9223372036854775807 then (spec_Upper.l0 k1 a0 (x3_1 ++ t172) (wrap64 (x4_1 + t154))) else (none))) else ((spec_l19Put.f t153).bind fun t173 => (if x3_1.size + t173.size ≤ 9223372036854775807 then (spec_Upper.l0 k1 a0 (x3_1 ++ t173) (wrap64 (x4_1 + t154))) else (none))))))) = some r := by rw [if_neg (show ¬ (false = true) by decide)] at H; exact H
                clear H
                have H := H1
                clear H1
                replace H := Option.bind_eq_some_iff.mp H
                obtain ⟨t166, A390, H⟩ := H
                replace H : (if t166 = true then (if t153 = 962 then ((spec_l1In.f t153 1072 1103).bind fun t167 => (if t167 = true then ((spec_l19Put.f (wrap64 (t153 - 32))).bind fun t168 => (if x3_1.size + t168.size ≤ 9223372036854775807 then (spec_Upper.l0 k1 a0 (x3_1 ++ t168) (wrap64 (x4_1 + t154))) else (none))) else ((spec_l19Put.f t153).bind fun t169 => (if x3_1.size + t169.size ≤ 9223372036854775807 then (spec_Upper.l0 k1 a0 (x3_1 ++ t169) (wrap64 (x4_1 + t154))) else (none))))) else ((spec_l19Put.f (wrap64 (t153 - 32))).bind fun t170 => (if x3_1.size + t170.size ≤ 9223372036854775807 then (spec_Upper.l0 k1 a0 (x3_1 ++ t170) (wrap64 (x4_1 + t154))) else (none)))) else ((spec_l1In.f t153 1072 1103).bind fun t171 => (if t171 = true then ((spec_l19Put.f (wrap64 (t153 - 32))).bind fun t172 => (if x3_1.size + t172.size ≤ 9223372036854775807 then (spec_Upper.l0 k1 a0 (x3_1 ++ t172) (wrap64 (x4_1 + t154))) else (none))) else ((spec_l19Put.f t153).bind fun t173 => (if x3_1.size + t173.size ≤ 9223372036854775807 then (spec_Upper.l0 k1 a0 (x3_1 ++ t173) (wrap64 (x4_1 + t154))) else (none)))))) = some r := H
                have A39 := Aside0.mk A390
                clear A390
                by_cases c40 : t166 = true
                · subst c40
                  have H1 : (if t153 = 962 then ((spec_l1In.f t153 1072 1103).bind fun t167 => (if t167 = true then ((spec_l19Put.f (wrap64 (t153 - 32))).bind fun t168 => (if x3_1.size + t168.size ≤ 9223372036854775807 then (spec_Upper.l0 k1 a0 (x3_1 ++ t168) (wrap64 (x4_1 + t154))) else (none))) else ((spec_l19Put.f t153).bind fun t169 => (if x3_1.size + t169.size ≤ 9223372036854775807 then (spec_Upper.l0 k1 a0 (x3_1 ++ t169) (wrap64 (x4_1 + t154))) else (none))))) else ((spec_l19Put.f (wrap64 (t153 - 32))).bind fun t170 => (if x3_1.size + t170.size ≤ 9223372036854775807 then (spec_Upper.l0 k1 a0 (x3_1 ++ t170) (wrap64 (x4_1 + t154))) else (none)))) = some r := by rw [if_pos rfl] at H; exact H
                  clear H
                  have H := H1
                  clear H1
                  by_cases c41 : t153 = 962
                  · rw [if_pos c41] at H
                    have c41b0 : (t153 == 962) = true := beq_iff_eq.mpr c41
                    have c41b1 : (t153 != 962) = false := bne_eq_false_iff_eq.mpr c41
                    clear c41
                    replace H := Option.bind_eq_some_iff.mp H
                    obtain ⟨t167, A420, H⟩ := H
                    replace H : (if t167 = true then ((spec_l19Put.f (wrap64 (t153 - 32))).bind fun t168 => (if x3_1.size + t168.size ≤ 9223372036854775807 then (spec_Upper.l0 k1 a0 (x3_1 ++ t168) (wrap64 (x4_1 + t154))) else (none))) else ((spec_l19Put.f t153).bind fun t169 => (if x3_1.size + t169.size ≤ 9223372036854775807 then (spec_Upper.l0 k1 a0 (x3_1 ++ t169) (wrap64 (x4_1 + t154))) else (none)))) = some r := H
                    have A42 := Aside0.mk A420
                    clear A420
                    by_cases c43 : t167 = true
                    · subst c43
                      have H1 : ((spec_l19Put.f (wrap64 (t153 - 32))).bind fun t168 => (if x3_1.size + t168.size ≤ 9223372036854775807 then (spec_Upper.l0 k1 a0 (x3_1 ++ t168) (wrap64 (x4_1 + t154))) else (none))) = some r := by rw [if_pos rfl] at H; exact H
                      clear H
                      have H := H1
                      clear H1
                      replace H := Option.bind_eq_some_iff.mp H
                      obtain ⟨t168, A440, H⟩ := H
                      replace H : (if x3_1.size + t168.size ≤ 9223372036854775807 then (spec_Upper.l0 k1 a0 (x3_1 ++ t168) (wrap64 (x4_1 + t154))) else (none)) = some r := H
                      have A44 := Aside0.mk A440
                      clear A440
                      by_cases c45 : x3_1.size + t168.size ≤ 9223372036854775807
                      · rw [if_pos c45] at H
                        have c45b0 := eq_true c45
                        have c45b1 : decide (x3_1.size + t168.size ≤ 9223372036854775807) = true := decide_eq_true c45
                        try have c45b2 : (9223372036854775807 < x3_1.size + t168.size) = False := eq_false (Nat.not_lt.2 c45)
                        have H' := Aside0.mk H
                        clear H
                        go_wp2_with (first | ((with_reducible refine gate_callee (f := 21) rfl ?_); refine goesL_ (some 17) rfl rfl Tryd.func21 (by kernel_rfl) rfl #[.string a0, .int .i64 x4_1] rfl (by (try simp only [List.map_toArray, List.map_cons, List.map_nil]); first | done | rfl | (simp only [List.length_drop, List.length_take]; rfl)) ?_; (with_reducible refine (spec_l19Rune.calls a0 x4_1 t153 t154 _ A5.out).mono ?_); rintro e w' ⟨rfl, ⟨nd, rfl⟩⟩; refine ⟨_, rfl, ?_⟩) | (go_at_call 23; (with_reducible refine (spec_l1In.calls t153 224 254 false _ A11.out).mono ?_); rintro e w' ⟨rfl, ⟨nd, rfl⟩⟩) | (go_at_call 23; (with_reducible refine (spec_l1In.calls t153 945 969 true _ A39.out).mono ?_); rintro e w' ⟨rfl, ⟨nd, rfl⟩⟩) | (go_at_call 23; (with_reducible refine (spec_l1In.calls t153 1072 1103 true _ A42.out).mono ?_); rintro e w' ⟨rfl, ⟨nd, rfl⟩⟩) | ((with_reducible refine gate_callee (f := 34) rfl ?_); refine goesL_ (some 50) rfl rfl Tryd.func34 (by kernel_rfl) rfl #[.int .i64 (wrap64 (t153 - 32))] rfl (by (try simp only [List.map_toArray, List.map_cons, List.map_nil]); first | done | rfl | (simp only [List.length_drop, List.length_take]; rfl)) ?_; (with_reducible refine (spec_l19Put.calls (wrap64 (t153 - 32)) t168 _ A44.out).mono ?_); rintro e w46 ⟨rfl, hb⟩; refine ⟨_, rfl, ?_⟩; have n0_ := Aside0.mk (below_step (by repeat (first | (with_reducible first | exact HB.out | apply below_alloc | apply pw_below_drewN | apply below_drew1) | exact HB.out)) hb); clear HB; have HB := n0_; clear n0_; (try clear hb); (try clear hb2); (try clear hk); (try clear hi)))
                        go_roundg k1
                        case measure => have := HK1.out; omega
                        case rel => exact ⟨(x3_1 ++ t168), (wrap64 (x4_1 + t154)), (by first | rfl | (simp; done) | (simp [*]; done)), (by first | rfl | (simp; done) | (simp [*]; done)), H', ⟨by have := HK1.out; omega⟩, ⟨by repeat (first | (with_reducible first | exact HB.out | apply below_alloc | apply pw_below_drewN | apply below_drew1) | exact HB.out)⟩⟩
                      · rw [if_neg c45] at H
                        exact absurd H (by simp)
                    · replace c43 := Bool.eq_false_iff.mpr c43
                      subst c43
                      have H1 : ((spec_l19Put.f t153).bind fun t169 => (if x3_1.size + t169.size ≤ 9223372036854775807 then (spec_Upper.l0 k1 a0 (x3_1 ++ t169) (wrap64 (x4_1 + t154))) else (none))) = some r := by rw [if_neg (show ¬ (false = true) by decide)] at H; exact H
                      clear H
                      have H := H1
                      clear H1
                      replace H := Option.bind_eq_some_iff.mp H
                      obtain ⟨t169, A470, H⟩ := H
                      replace H : (if x3_1.size + t169.size ≤ 9223372036854775807 then (spec_Upper.l0 k1 a0 (x3_1 ++ t169) (wrap64 (x4_1 + t154))) else (none)) = some r := H
                      have A47 := Aside0.mk A470
                      clear A470
                      by_cases c48 : x3_1.size + t169.size ≤ 9223372036854775807
                      · rw [if_pos c48] at H
                        have c48b0 := eq_true c48
                        have c48b1 : decide (x3_1.size + t169.size ≤ 9223372036854775807) = true := decide_eq_true c48
                        try have c48b2 : (9223372036854775807 < x3_1.size + t169.size) = False := eq_false (Nat.not_lt.2 c48)
                        have H' := Aside0.mk H
                        clear H
                        go_wp2_with (first | ((with_reducible refine gate_callee (f := 21) rfl ?_); refine goesL_ (some 17) rfl rfl Tryd.func21 (by kernel_rfl) rfl #[.string a0, .int .i64 x4_1] rfl (by (try simp only [List.map_toArray, List.map_cons, List.map_nil]); first | done | rfl | (simp only [List.length_drop, List.length_take]; rfl)) ?_; (with_reducible refine (spec_l19Rune.calls a0 x4_1 t153 t154 _ A5.out).mono ?_); rintro e w' ⟨rfl, ⟨nd, rfl⟩⟩; refine ⟨_, rfl, ?_⟩) | (go_at_call 23; (with_reducible refine (spec_l1In.calls t153 224 254 false _ A11.out).mono ?_); rintro e w' ⟨rfl, ⟨nd, rfl⟩⟩) | (go_at_call 23; (with_reducible refine (spec_l1In.calls t153 945 969 true _ A39.out).mono ?_); rintro e w' ⟨rfl, ⟨nd, rfl⟩⟩) | (go_at_call 23; (with_reducible refine (spec_l1In.calls t153 1072 1103 false _ A42.out).mono ?_); rintro e w' ⟨rfl, ⟨nd, rfl⟩⟩) | ((with_reducible refine gate_callee (f := 34) rfl ?_); refine goesL_ (some 50) rfl rfl Tryd.func34 (by kernel_rfl) rfl #[.int .i64 t153] rfl (by (try simp only [List.map_toArray, List.map_cons, List.map_nil]); first | done | rfl | (simp only [List.length_drop, List.length_take]; rfl)) ?_; (with_reducible refine (spec_l19Put.calls t153 t169 _ A47.out).mono ?_); rintro e w49 ⟨rfl, hb⟩; refine ⟨_, rfl, ?_⟩; have n0_ := Aside0.mk (below_step (by repeat (first | (with_reducible first | exact HB.out | apply below_alloc | apply pw_below_drewN | apply below_drew1) | exact HB.out)) hb); clear HB; have HB := n0_; clear n0_; (try clear hb); (try clear hb2); (try clear hk); (try clear hi)))
                        go_roundg k1
                        case measure => have := HK1.out; omega
                        case rel => exact ⟨(x3_1 ++ t169), (wrap64 (x4_1 + t154)), (by first | rfl | (simp; done) | (simp [*]; done)), (by first | rfl | (simp; done) | (simp [*]; done)), H', ⟨by have := HK1.out; omega⟩, ⟨by repeat (first | (with_reducible first | exact HB.out | apply below_alloc | apply pw_below_drewN | apply below_drew1) | exact HB.out)⟩⟩
                      · rw [if_neg c48] at H
                        exact absurd H (by simp)
                  · rw [if_neg c41] at H
                    have c41b0 : (t153 == 962) = false := beq_eq_false_iff_ne.mpr c41
                    have c41b1 : (t153 != 962) = true := bne_iff_ne.mpr c41
                    replace H := Option.bind_eq_some_iff.mp H
                    obtain ⟨t170, A500, H⟩ := H
                    replace H : (if x3_1.size + t170.size ≤ 9223372036854775807 then (spec_Upper.l0 k1 a0 (x3_1 ++ t170) (wrap64 (x4_1 + t154))) else (none)) = some r := H
                    have A50 := Aside0.mk A500
                    clear A500
                    by_cases c51 : x3_1.size + t170.size ≤ 9223372036854775807
                    · rw [if_pos c51] at H
                      have c51b0 := eq_true c51
                      have c51b1 : decide (x3_1.size + t170.size ≤ 9223372036854775807) = true := decide_eq_true c51
                      try have c51b2 : (9223372036854775807 < x3_1.size + t170.size) = False := eq_false (Nat.not_lt.2 c51)
                      have H' := Aside0.mk H
                      clear H
                      go_wp2_with (first | ((with_reducible refine gate_callee (f := 21) rfl ?_); refine goesL_ (some 17) rfl rfl Tryd.func21 (by kernel_rfl) rfl #[.string a0, .int .i64 x4_1] rfl (by (try simp only [List.map_toArray, List.map_cons, List.map_nil]); first | done | rfl | (simp only [List.length_drop, List.length_take]; rfl)) ?_; (with_reducible refine (spec_l19Rune.calls a0 x4_1 t153 t154 _ A5.out).mono ?_); rintro e w' ⟨rfl, ⟨nd, rfl⟩⟩; refine ⟨_, rfl, ?_⟩) | (go_at_call 23; (with_reducible refine (spec_l1In.calls t153 224 254 false _ A11.out).mono ?_); rintro e w' ⟨rfl, ⟨nd, rfl⟩⟩) | (go_at_call 23; (with_reducible refine (spec_l1In.calls t153 945 969 true _ A39.out).mono ?_); rintro e w' ⟨rfl, ⟨nd, rfl⟩⟩) | ((with_reducible refine gate_callee (f := 34) rfl ?_); refine goesL_ (some 50) rfl rfl Tryd.func34 (by kernel_rfl) rfl #[.int .i64 (wrap64 (t153 - 32))] rfl (by (try simp only [List.map_toArray, List.map_cons, List.map_nil]); first | done | rfl | (simp only [List.length_drop, List.length_take]; rfl)) ?_; (with_reducible refine (spec_l19Put.calls (wrap64 (t153 - 32)) t170 _ A50.out).mono ?_); rintro e w52 ⟨rfl, hb⟩; refine ⟨_, rfl, ?_⟩; have n0_ := Aside0.mk (below_step (by repeat (first | (with_reducible first | exact HB.out | apply below_alloc | apply pw_below_drewN | apply below_drew1) | exact HB.out)) hb); clear HB; have HB := n0_; clear n0_; (try clear hb); (try clear hb2); (try clear hk); (try clear hi)))
                      go_roundg k1
                      case measure => have := HK1.out; omega
                      case rel => exact ⟨(x3_1 ++ t170), (wrap64 (x4_1 + t154)), (by first | rfl | (simp; done) | (simp [*]; done)), (by first | rfl | (simp; done) | (simp [*]; done)), H', ⟨by have := HK1.out; omega⟩, ⟨by repeat (first | (with_reducible first | exact HB.out | apply below_alloc | apply pw_below_drewN | apply below_drew1) | exact HB.out)⟩⟩
                    · rw [if_neg c51] at H
                      exact absurd H (by simp)
                · replace c40 := Bool.eq_false_iff.mpr c40
                  subst c40
                  have H1 : ((spec_l1In.f t153 1072 1103).bind fun t171 => (if t171 = true then ((spec_l19Put.f (wrap64 (t153 - 32))).bind fun t172 => (if x3_1.size + t172.size ≤ 9223372036854775807 then (spec_Upper.l0 k1 a0 (x3_1 ++ t172) (wrap64 (x4_1 + t154))) else (none))) else ((spec_l19Put.f t153).bind fun t173 => (if x3_1.size + t173.size ≤ 9223372036854775807 then (spec_Upper.l0 k1 a0 (x3_1 ++ t173) (wrap64 (x4_1 + t154))) else (none))))) = some r := by rw [if_neg (show ¬ (false = true) by decide)] at H; exact H
                  clear H
                  have H := H1
                  clear H1
                  replace H := Option.bind_eq_some_iff.mp H
                  obtain ⟨t171, A530, H⟩ := H
                  replace H : (if t171 = true then ((spec_l19Put.f (wrap64 (t153 - 32))).bind fun t172 => (if x3_1.size + t172.size ≤ 9223372036854775807 then (spec_Upper.l0 k1 a0 (x3_1 ++ t172) (wrap64 (x4_1 + t154))) else (none))) else ((spec_l19Put.f t153).bind fun t173 => (if x3_1.size + t173.size ≤ 9223372036854775807 then (spec_Upper.l0 k1 a0 (x3_1 ++ t173) (wrap64 (x4_1 + t154))) else (none)))) = some r := H
                  have A53 := Aside0.mk A530
                  clear A530
                  by_cases c54 : t171 = true
                  · subst c54
                    have H1 : ((spec_l19Put.f (wrap64 (t153 - 32))).bind fun t172 => (if x3_1.size + t172.size ≤ 9223372036854775807 then (spec_Upper.l0 k1 a0 (x3_1 ++ t172) (wrap64 (x4_1 + t154))) else (none))) = some r := by rw [if_pos rfl] at H; exact H
                    clear H
                    have H := H1
                    clear H1
                    replace H := Option.bind_eq_some_iff.mp H
                    obtain ⟨t172, A550, H⟩ := H
                    replace H : (if x3_1.size + t172.size ≤ 9223372036854775807 then (spec_Upper.l0 k1 a0 (x3_1 ++ t172) (wrap64 (x4_1 + t154))) else (none)) = some r := H
                    have A55 := Aside0.mk A550
                    clear A550
                    by_cases c56 : x3_1.size + t172.size ≤ 9223372036854775807
                    · rw [if_pos c56] at H
                      have c56b0 := eq_true c56
                      have c56b1 : decide (x3_1.size + t172.size ≤ 9223372036854775807) = true := decide_eq_true c56
                      try have c56b2 : (9223372036854775807 < x3_1.size + t172.size) = False := eq_false (Nat.not_lt.2 c56)
                      have H' := Aside0.mk H
                      clear H
                      go_wp2_with (first | ((with_reducible refine gate_callee (f := 21) rfl ?_); refine goesL_ (some 17) rfl rfl Tryd.func21 (by kernel_rfl) rfl #[.string a0, .int .i64 x4_1] rfl (by (try simp only [List.map_toArray, List.map_cons, List.map_nil]); first | done | rfl | (simp only [List.length_drop, List.length_take]; rfl)) ?_; (with_reducible refine (spec_l19Rune.calls a0 x4_1 t153 t154 _ A5.out).mono ?_); rintro e w' ⟨rfl, ⟨nd, rfl⟩⟩; refine ⟨_, rfl, ?_⟩) | (go_at_call 23; (with_reducible refine (spec_l1In.calls t153 224 254 false _ A11.out).mono ?_); rintro e w' ⟨rfl, ⟨nd, rfl⟩⟩) | (go_at_call 23; (with_reducible refine (spec_l1In.calls t153 945 969 false _ A39.out).mono ?_); rintro e w' ⟨rfl, ⟨nd, rfl⟩⟩) | (go_at_call 23; (with_reducible refine (spec_l1In.calls t153 1072 1103 true _ A53.out).mono ?_); rintro e w' ⟨rfl, ⟨nd, rfl⟩⟩) | ((with_reducible refine gate_callee (f := 34) rfl ?_); refine goesL_ (some 50) rfl rfl Tryd.func34 (by kernel_rfl) rfl #[.int .i64 (wrap64 (t153 - 32))] rfl (by (try simp only [List.map_toArray, List.map_cons, List.map_nil]); first | done | rfl | (simp only [List.length_drop, List.length_take]; rfl)) ?_; (with_reducible refine (spec_l19Put.calls (wrap64 (t153 - 32)) t172 _ A55.out).mono ?_); rintro e w57 ⟨rfl, hb⟩; refine ⟨_, rfl, ?_⟩; have n0_ := Aside0.mk (below_step (by repeat (first | (with_reducible first | exact HB.out | apply below_alloc | apply pw_below_drewN | apply below_drew1) | exact HB.out)) hb); clear HB; have HB := n0_; clear n0_; (try clear hb); (try clear hb2); (try clear hk); (try clear hi)))
                      go_roundg k1
                      case measure => have := HK1.out; omega
                      case rel => exact ⟨(x3_1 ++ t172), (wrap64 (x4_1 + t154)), (by first | rfl | (simp; done) | (simp [*]; done)), (by first | rfl | (simp; done) | (simp [*]; done)), H', ⟨by have := HK1.out; omega⟩, ⟨by repeat (first | (with_reducible first | exact HB.out | apply below_alloc | apply pw_below_drewN | apply below_drew1) | exact HB.out)⟩⟩
                    · rw [if_neg c56] at H
                      exact absurd H (by simp)
                  · replace c54 := Bool.eq_false_iff.mpr c54
                    subst c54
                    have H1 : ((spec_l19Put.f t153).bind fun t173 => (if x3_1.size + t173.size ≤ 9223372036854775807 then (spec_Upper.l0 k1 a0 (x3_1 ++ t173) (wrap64 (x4_1 + t154))) else (none))) = some r := by rw [if_neg (show ¬ (false = true) by decide)] at H; exact H
                    clear H
                    have H := H1
                    clear H1
                    replace H := Option.bind_eq_some_iff.mp H
                    obtain ⟨t173, A580, H⟩ := H
                    replace H : (if x3_1.size + t173.size ≤ 9223372036854775807 then (spec_Upper.l0 k1 a0 (x3_1 ++ t173) (wrap64 (x4_1 + t154))) else (none)) = some r := H
                    have A58 := Aside0.mk A580
                    clear A580
                    by_cases c59 : x3_1.size + t173.size ≤ 9223372036854775807
                    · rw [if_pos c59] at H
                      have c59b0 := eq_true c59
                      have c59b1 : decide (x3_1.size + t173.size ≤ 9223372036854775807) = true := decide_eq_true c59
                      try have c59b2 : (9223372036854775807 < x3_1.size + t173.size) = False := eq_false (Nat.not_lt.2 c59)
                      have H' := Aside0.mk H
                      clear H
                      go_wp2_with (first | ((with_reducible refine gate_callee (f := 21) rfl ?_); refine goesL_ (some 17) rfl rfl Tryd.func21 (by kernel_rfl) rfl #[.string a0, .int .i64 x4_1] rfl (by (try simp only [List.map_toArray, List.map_cons, List.map_nil]); first | done | rfl | (simp only [List.length_drop, List.length_take]; rfl)) ?_; (with_reducible refine (spec_l19Rune.calls a0 x4_1 t153 t154 _ A5.out).mono ?_); rintro e w' ⟨rfl, ⟨nd, rfl⟩⟩; refine ⟨_, rfl, ?_⟩) | (go_at_call 23; (with_reducible refine (spec_l1In.calls t153 224 254 false _ A11.out).mono ?_); rintro e w' ⟨rfl, ⟨nd, rfl⟩⟩) | (go_at_call 23; (with_reducible refine (spec_l1In.calls t153 945 969 false _ A39.out).mono ?_); rintro e w' ⟨rfl, ⟨nd, rfl⟩⟩) | (go_at_call 23; (with_reducible refine (spec_l1In.calls t153 1072 1103 false _ A53.out).mono ?_); rintro e w' ⟨rfl, ⟨nd, rfl⟩⟩) | ((with_reducible refine gate_callee (f := 34) rfl ?_); refine goesL_ (some 50) rfl rfl Tryd.func34 (by kernel_rfl) rfl #[.int .i64 t153] rfl (by (try simp only [List.map_toArray, List.map_cons, List.map_nil]); first | done | rfl | (simp only [List.length_drop, List.length_take]; rfl)) ?_; (with_reducible refine (spec_l19Put.calls t153 t173 _ A58.out).mono ?_); rintro e w60 ⟨rfl, hb⟩; refine ⟨_, rfl, ?_⟩; have n0_ := Aside0.mk (below_step (by repeat (first | (with_reducible first | exact HB.out | apply below_alloc | apply pw_below_drewN | apply below_drew1) | exact HB.out)) hb); clear HB; have HB := n0_; clear n0_; (try clear hb); (try clear hb2); (try clear hk); (try clear hi)))
                      go_roundg k1
                      case measure => have := HK1.out; omega
                      case rel => exact ⟨(x3_1 ++ t173), (wrap64 (x4_1 + t154)), (by first | rfl | (simp; done) | (simp [*]; done)), (by first | rfl | (simp; done) | (simp [*]; done)), H', ⟨by have := HK1.out; omega⟩, ⟨by repeat (first | (with_reducible first | exact HB.out | apply below_alloc | apply pw_below_drewN | apply below_drew1) | exact HB.out)⟩⟩
                    · rw [if_neg c59] at H
                      exact absurd H (by simp)
          · rw [if_neg c6] at H
            have c6b0 : decide (97 ≤ t153) = false := decide_eq_false c6
            clear c6
            replace H := Option.bind_eq_some_iff.mp H
            obtain ⟨t174, A610, H⟩ := H
            replace H : (if t174 = true then (if t153 = 247 then ((spec_l1In.f t153 945 969).bind fun t175 => (if t175 = true then (if t153 = 962 then ((spec_l1In.f t153 1072 1103).bind fun t176 => (if t176 = true then ((spec_l19Put.f (wrap64 (t153 - 32))).bind fun t177 => (if x3_1.size + t177.size ≤ 9223372036854775807 then (spec_Upper.l0 k1 a0 (x3_1 ++ t177) (wrap64 (x4_1 + t154))) else (none))) else ((spec_l19Put.f t153).bind fun t178 => (if x3_1.size + t178.size ≤ 9223372036854775807 then (spec_Upper.l0 k1 a0 (x3_1 ++ t178) (wrap64 (x4_1 + t154))) else (none))))) else ((spec_l19Put.f (wrap64 (t153 - 32))).bind fun t179 => (if x3_1.size + t179.size ≤ 9223372036854775807 then (spec_Upper.l0 k1 a0 (x3_1 ++ t179) (wrap64 (x4_1 + t154))) else (none)))) else ((spec_l1In.f t153 1072 1103).bind fun t180 => (if t180 = true then ((spec_l19Put.f (wrap64 (t153 - 32))).bind fun t181 => (if x3_1.size + t181.size ≤ 9223372036854775807 then (spec_Upper.l0 k1 a0 (x3_1 ++ t181) (wrap64 (x4_1 + t154))) else (none))) else ((spec_l19Put.f t153).bind fun t182 => (if x3_1.size + t182.size ≤ 9223372036854775807 then (spec_Upper.l0 k1 a0 (x3_1 ++ t182) (wrap64 (x4_1 + t154))) else (none))))))) else ((spec_l19Put.f (wrap64 (t153 - 32))).bind fun t183 => (if x3_1.size + t183.size ≤ 9223372036854775807 then (spec_Upper.l0 k1 a0 (x3_1 ++ t183) (wrap64 (x4_1 + t154))) else (none)))) else ((spec_l1In.f t153 945 969).bind fun t184 => (if t184 = true then (if t153 = 962 then ((spec_l1In.f t153 1072 1103).bind fun t185 => (if t185 = true then ((spec_l19Put.f (wrap64 (t153 - 32))).bind fun t186 => (if x3_1.size + t186.size ≤ 9223372036854775807 then (spec_Upper.l0 k1 a0 (x3_1 ++ t186) (wrap64 (x4_1 + t154))) else (none))) else ((spec_l19Put.f t153).bind fun t187 => (if x3_1.size + t187.size ≤ 9223372036854775807 then (spec_Upper.l0 k1 a0 (x3_1 ++ t187) (wrap64 (x4_1 + t154))) else (none))))) else ((spec_l19Put.f (wrap64 (t153 - 32))).bind fun t188 => (if x3_1.size + t188.size ≤ 9223372036854775807 then (spec_Upper.l0 k1 a0 (x3_1 ++ t188) (wrap64 (x4_1 + t154))) else (none)))) else ((spec_l1In.f t153 1072 1103).bind fun t189 => (if t189 = true then ((spec_l19Put.f (wrap64 (t153 - 32))).bind fun t190 => (if x3_1.size + t190.size ≤ 9223372036854775807 then (spec_Upper.l0 k1 a0 (x3_1 ++ t190) (wrap64 (x4_1 + t154))) else (none))) else ((spec_l19Put.f t153).bind fun t191 => (if x3_1.size + t191.size ≤ 9223372036854775807 then (spec_Upper.l0 k1 a0 (x3_1 ++ t191) (wrap64 (x4_1 + t154))) else (none)))))))) = some r := H
            have A61 := Aside0.mk A610
            clear A610
            by_cases c62 : t174 = true
            · subst c62
              have H1 : (if t153 = 247 then ((spec_l1In.f t153 945 969).bind fun t175 => (if t175 = true then (if t153 = 962 then ((spec_l1In.f t153 1072 1103).bind fun t176 => (if t176 = true then ((spec_l19Put.f (wrap64 (t153 - 32))).bind fun t177 => (if x3_1.size + t177.size ≤ 9223372036854775807 then (spec_Upper.l0 k1 a0 (x3_1 ++ t177) (wrap64 (x4_1 + t154))) else (none))) else ((spec_l19Put.f t153).bind fun t178 => (if x3_1.size + t178.size ≤ 9223372036854775807 then (spec_Upper.l0 k1 a0 (x3_1 ++ t178) (wrap64 (x4_1 + t154))) else (none))))) else ((spec_l19Put.f (wrap64 (t153 - 32))).bind fun t179 => (if x3_1.size + t179.size ≤ 9223372036854775807 then (spec_Upper.l0 k1 a0 (x3_1 ++ t179) (wrap64 (x4_1 + t154))) else (none)))) else ((spec_l1In.f t153 1072 1103).bind fun t180 => (if t180 = true then ((spec_l19Put.f (wrap64 (t153 - 32))).bind fun t181 => (if x3_1.size + t181.size ≤ 9223372036854775807 then (spec_Upper.l0 k1 a0 (x3_1 ++ t181) (wrap64 (x4_1 + t154))) else (none))) else ((spec_l19Put.f t153).bind fun t182 => (if x3_1.size + t182.size ≤ 9223372036854775807 then (spec_Upper.l0 k1 a0 (x3_1 ++ t182) (wrap64 (x4_1 + t154))) else (none))))))) else ((spec_l19Put.f (wrap64 (t153 - 32))).bind fun t183 => (if x3_1.size + t183.size ≤ 9223372036854775807 then (spec_Upper.l0 k1 a0 (x3_1 ++ t183) (wrap64 (x4_1 + t154))) else (none)))) = some r := by rw [if_pos rfl] at H; exact H
              clear H
              have H := H1
              clear H1
              by_cases c63 : t153 = 247
              · rw [if_pos c63] at H
                have c63b0 : (t153 == 247) = true := beq_iff_eq.mpr c63
                have c63b1 : (t153 != 247) = false := bne_eq_false_iff_eq.mpr c63
                clear c63
                replace H := Option.bind_eq_some_iff.mp H
                obtain ⟨t175, A640, H⟩ := H
                replace H : (if t175 = true then (if t153 = 962 then ((spec_l1In.f t153 1072 1103).bind fun t176 => (if t176 = true then ((spec_l19Put.f (wrap64 (t153 - 32))).bind fun t177 => (if x3_1.size + t177.size ≤ 9223372036854775807 then (spec_Upper.l0 k1 a0 (x3_1 ++ t177) (wrap64 (x4_1 + t154))) else (none))) else ((spec_l19Put.f t153).bind fun t178 => (if x3_1.size + t178.size ≤ 9223372036854775807 then (spec_Upper.l0 k1 a0 (x3_1 ++ t178) (wrap64 (x4_1 + t154))) else (none))))) else ((spec_l19Put.f (wrap64 (t153 - 32))).bind fun t179 => (if x3_1.size + t179.size ≤ 9223372036854775807 then (spec_Upper.l0 k1 a0 (x3_1 ++ t179) (wrap64 (x4_1 + t154))) else (none)))) else ((spec_l1In.f t153 1072 1103).bind fun t180 => (if t180 = true then ((spec_l19Put.f (wrap64 (t153 - 32))).bind fun t181 => (if x3_1.size + t181.size ≤ 9223372036854775807 then (spec_Upper.l0 k1 a0 (x3_1 ++ t181) (wrap64 (x4_1 + t154))) else (none))) else ((spec_l19Put.f t153).bind fun t182 => (if x3_1.size + t182.size ≤ 9223372036854775807 then (spec_Upper.l0 k1 a0 (x3_1 ++ t182) (wrap64 (x4_1 + t154))) else (none)))))) = some r := H
                have A64 := Aside0.mk A640
                clear A640
                by_cases c65 : t175 = true
                · subst c65
                  have H1 : (if t153 = 962 then ((spec_l1In.f t153 1072 1103).bind fun t176 => (if t176 = true then ((spec_l19Put.f (wrap64 (t153 - 32))).bind fun t177 => (if x3_1.size + t177.size ≤ 9223372036854775807 then (spec_Upper.l0 k1 a0 (x3_1 ++ t177) (wrap64 (x4_1 + t154))) else (none))) else ((spec_l19Put.f t153).bind fun t178 => (if x3_1.size + t178.size ≤ 9223372036854775807 then (spec_Upper.l0 k1 a0 (x3_1 ++ t178) (wrap64 (x4_1 + t154))) else (none))))) else ((spec_l19Put.f (wrap64 (t153 - 32))).bind fun t179 => (if x3_1.size + t179.size ≤ 9223372036854775807 then (spec_Upper.l0 k1 a0 (x3_1 ++ t179) (wrap64 (x4_1 + t154))) else (none)))) = some r := by rw [if_pos rfl] at H; exact H
                  clear H
                  have H := H1
                  clear H1
                  by_cases c66 : t153 = 962
                  · rw [if_pos c66] at H
                    have c66b0 : (t153 == 962) = true := beq_iff_eq.mpr c66
                    have c66b1 : (t153 != 962) = false := bne_eq_false_iff_eq.mpr c66
                    clear c66
                    replace H := Option.bind_eq_some_iff.mp H
                    obtain ⟨t176, A670, H⟩ := H
                    replace H : (if t176 = true then ((spec_l19Put.f (wrap64 (t153 - 32))).bind fun t177 => (if x3_1.size + t177.size ≤ 9223372036854775807 then (spec_Upper.l0 k1 a0 (x3_1 ++ t177) (wrap64 (x4_1 + t154))) else (none))) else ((spec_l19Put.f t153).bind fun t178 => (if x3_1.size + t178.size ≤ 9223372036854775807 then (spec_Upper.l0 k1 a0 (x3_1 ++ t178) (wrap64 (x4_1 + t154))) else (none)))) = some r := H
                    have A67 := Aside0.mk A670
                    clear A670
                    by_cases c68 : t176 = true
                    · subst c68
                      have H1 : ((spec_l19Put.f (wrap64 (t153 - 32))).bind fun t177 => (if x3_1.size + t177.size ≤ 9223372036854775807 then (spec_Upper.l0 k1 a0 (x3_1 ++ t177) (wrap64 (x4_1 + t154))) else (none))) = some r := by rw [if_pos rfl] at H; exact H
                      clear H
                      have H := H1
                      clear H1
                      replace H := Option.bind_eq_some_iff.mp H
                      obtain ⟨t177, A690, H⟩ := H
                      replace H : (if x3_1.size + t177.size ≤ 9223372036854775807 then (spec_Upper.l0 k1 a0 (x3_1 ++ t177) (wrap64 (x4_1 + t154))) else (none)) = some r := H
                      have A69 := Aside0.mk A690
                      clear A690
                      by_cases c70 : x3_1.size + t177.size ≤ 9223372036854775807
                      · rw [if_pos c70] at H
                        have c70b0 := eq_true c70
                        have c70b1 : decide (x3_1.size + t177.size ≤ 9223372036854775807) = true := decide_eq_true c70
                        try have c70b2 : (9223372036854775807 < x3_1.size + t177.size) = False := eq_false (Nat.not_lt.2 c70)
                        have H' := Aside0.mk H
                        clear H
                        go_wp2_with (first | ((with_reducible refine gate_callee (f := 21) rfl ?_); refine goesL_ (some 17) rfl rfl Tryd.func21 (by kernel_rfl) rfl #[.string a0, .int .i64 x4_1] rfl (by (try simp only [List.map_toArray, List.map_cons, List.map_nil]); first | done | rfl | (simp only [List.length_drop, List.length_take]; rfl)) ?_; (with_reducible refine (spec_l19Rune.calls a0 x4_1 t153 t154 _ A5.out).mono ?_); rintro e w' ⟨rfl, ⟨nd, rfl⟩⟩; refine ⟨_, rfl, ?_⟩) | (go_at_call 23; (with_reducible refine (spec_l1In.calls t153 224 254 true _ A61.out).mono ?_); rintro e w' ⟨rfl, ⟨nd, rfl⟩⟩) | (go_at_call 23; (with_reducible refine (spec_l1In.calls t153 945 969 true _ A64.out).mono ?_); rintro e w' ⟨rfl, ⟨nd, rfl⟩⟩) | (go_at_call 23; (with_reducible refine (spec_l1In.calls t153 1072 1103 true _ A67.out).mono ?_); rintro e w' ⟨rfl, ⟨nd, rfl⟩⟩) | ((with_reducible refine gate_callee (f := 34) rfl ?_); refine goesL_ (some 50) rfl rfl Tryd.func34 (by kernel_rfl) rfl #[.int .i64 (wrap64 (t153 - 32))] rfl (by (try simp only [List.map_toArray, List.map_cons, List.map_nil]); first | done | rfl | (simp only [List.length_drop, List.length_take]; rfl)) ?_; (with_reducible refine (spec_l19Put.calls (wrap64 (t153 - 32)) t177 _ A69.out).mono ?_); rintro e w71 ⟨rfl, hb⟩; refine ⟨_, rfl, ?_⟩; have n0_ := Aside0.mk (below_step (by repeat (first | (with_reducible first | exact HB.out | apply below_alloc | apply pw_below_drewN | apply below_drew1) | exact HB.out)) hb); clear HB; have HB := n0_; clear n0_; (try clear hb); (try clear hb2); (try clear hk); (try clear hi)))
                        go_roundg k1
                        case measure => have := HK1.out; omega
                        case rel => exact ⟨(x3_1 ++ t177), (wrap64 (x4_1 + t154)), (by first | rfl | (simp; done) | (simp [*]; done)), (by first | rfl | (simp; done) | (simp [*]; done)), H', ⟨by have := HK1.out; omega⟩, ⟨by repeat (first | (with_reducible first | exact HB.out | apply below_alloc | apply pw_below_drewN | apply below_drew1) | exact HB.out)⟩⟩
                      · rw [if_neg c70] at H
                        exact absurd H (by simp)
                    · replace c68 := Bool.eq_false_iff.mpr c68
                      subst c68
                      have H1 : ((spec_l19Put.f t153).bind fun t178 => (if x3_1.size + t178.size ≤ 9223372036854775807 then (spec_Upper.l0 k1 a0 (x3_1 ++ t178) (wrap64 (x4_1 + t154))) else (none))) = some r := by rw [if_neg (show ¬ (false = true) by decide)] at H; exact H
                      clear H
                      have H := H1
                      clear H1
                      replace H := Option.bind_eq_some_iff.mp H
                      obtain ⟨t178, A720, H⟩ := H
                      replace H : (if x3_1.size + t178.size ≤ 9223372036854775807 then (spec_Upper.l0 k1 a0 (x3_1 ++ t178) (wrap64 (x4_1 + t154))) else (none)) = some r := H
                      have A72 := Aside0.mk A720
                      clear A720
                      by_cases c73 : x3_1.size + t178.size ≤ 9223372036854775807
                      · rw [if_pos c73] at H
                        have c73b0 := eq_true c73
                        have c73b1 : decide (x3_1.size + t178.size ≤ 9223372036854775807) = true := decide_eq_true c73
                        try have c73b2 : (9223372036854775807 < x3_1.size + t178.size) = False := eq_false (Nat.not_lt.2 c73)
                        have H' := Aside0.mk H
                        clear H
                        go_wp2_with (first | ((with_reducible refine gate_callee (f := 21) rfl ?_); refine goesL_ (some 17) rfl rfl Tryd.func21 (by kernel_rfl) rfl #[.string a0, .int .i64 x4_1] rfl (by (try simp only [List.map_toArray, List.map_cons, List.map_nil]); first | done | rfl | (simp only [List.length_drop, List.length_take]; rfl)) ?_; (with_reducible refine (spec_l19Rune.calls a0 x4_1 t153 t154 _ A5.out).mono ?_); rintro e w' ⟨rfl, ⟨nd, rfl⟩⟩; refine ⟨_, rfl, ?_⟩) | (go_at_call 23; (with_reducible refine (spec_l1In.calls t153 224 254 true _ A61.out).mono ?_); rintro e w' ⟨rfl, ⟨nd, rfl⟩⟩) | (go_at_call 23; (with_reducible refine (spec_l1In.calls t153 945 969 true _ A64.out).mono ?_); rintro e w' ⟨rfl, ⟨nd, rfl⟩⟩) | (go_at_call 23; (with_reducible refine (spec_l1In.calls t153 1072 1103 false _ A67.out).mono ?_); rintro e w' ⟨rfl, ⟨nd, rfl⟩⟩) | ((with_reducible refine gate_callee (f := 34) rfl ?_); refine goesL_ (some 50) rfl rfl Tryd.func34 (by kernel_rfl) rfl #[.int .i64 t153] rfl (by (try simp only [List.map_toArray, List.map_cons, List.map_nil]); first | done | rfl | (simp only [List.length_drop, List.length_take]; rfl)) ?_; (with_reducible refine (spec_l19Put.calls t153 t178 _ A72.out).mono ?_); rintro e w74 ⟨rfl, hb⟩; refine ⟨_, rfl, ?_⟩; have n0_ := Aside0.mk (below_step (by repeat (first | (with_reducible first | exact HB.out | apply below_alloc | apply pw_below_drewN | apply below_drew1) | exact HB.out)) hb); clear HB; have HB := n0_; clear n0_; (try clear hb); (try clear hb2); (try clear hk); (try clear hi)))
                        go_roundg k1
                        case measure => have := HK1.out; omega
                        case rel => exact ⟨(x3_1 ++ t178), (wrap64 (x4_1 + t154)), (by first | rfl | (simp; done) | (simp [*]; done)), (by first | rfl | (simp; done) | (simp [*]; done)), H', ⟨by have := HK1.out; omega⟩, ⟨by repeat (first | (with_reducible first | exact HB.out | apply below_alloc | apply pw_below_drewN | apply below_drew1) | exact HB.out)⟩⟩
                      · rw [if_neg c73] at H
                        exact absurd H (by simp)
                  · rw [if_neg c66] at H
                    have c66b0 : (t153 == 962) = false := beq_eq_false_iff_ne.mpr c66
                    have c66b1 : (t153 != 962) = true := bne_iff_ne.mpr c66
                    replace H := Option.bind_eq_some_iff.mp H
                    obtain ⟨t179, A750, H⟩ := H
                    replace H : (if x3_1.size + t179.size ≤ 9223372036854775807 then (spec_Upper.l0 k1 a0 (x3_1 ++ t179) (wrap64 (x4_1 + t154))) else (none)) = some r := H
                    have A75 := Aside0.mk A750
                    clear A750
                    by_cases c76 : x3_1.size + t179.size ≤ 9223372036854775807
                    · rw [if_pos c76] at H
                      have c76b0 := eq_true c76
                      have c76b1 : decide (x3_1.size + t179.size ≤ 9223372036854775807) = true := decide_eq_true c76
                      try have c76b2 : (9223372036854775807 < x3_1.size + t179.size) = False := eq_false (Nat.not_lt.2 c76)
                      have H' := Aside0.mk H
                      clear H
                      go_wp2_with (first | ((with_reducible refine gate_callee (f := 21) rfl ?_); refine goesL_ (some 17) rfl rfl Tryd.func21 (by kernel_rfl) rfl #[.string a0, .int .i64 x4_1] rfl (by (try simp only [List.map_toArray, List.map_cons, List.map_nil]); first | done | rfl | (simp only [List.length_drop, List.length_take]; rfl)) ?_; (with_reducible refine (spec_l19Rune.calls a0 x4_1 t153 t154 _ A5.out).mono ?_); rintro e w' ⟨rfl, ⟨nd, rfl⟩⟩; refine ⟨_, rfl, ?_⟩) | (go_at_call 23; (with_reducible refine (spec_l1In.calls t153 224 254 true _ A61.out).mono ?_); rintro e w' ⟨rfl, ⟨nd, rfl⟩⟩) | (go_at_call 23; (with_reducible refine (spec_l1In.calls t153 945 969 true _ A64.out).mono ?_); rintro e w' ⟨rfl, ⟨nd, rfl⟩⟩) | ((with_reducible refine gate_callee (f := 34) rfl ?_); refine goesL_ (some 50) rfl rfl Tryd.func34 (by kernel_rfl) rfl #[.int .i64 (wrap64 (t153 - 32))] rfl (by (try simp only [List.map_toArray, List.map_cons, List.map_nil]); first | done | rfl | (simp only [List.length_drop, List.length_take]; rfl)) ?_; (with_reducible refine (spec_l19Put.calls (wrap64 (t153 - 32)) t179 _ A75.out).mono ?_); rintro e w77 ⟨rfl, hb⟩; refine ⟨_, rfl, ?_⟩; have n0_ := Aside0.mk (below_step (by repeat (first | (with_reducible first | exact HB.out | apply below_alloc | apply pw_below_drewN | apply below_drew1) | exact HB.out)) hb); clear HB; have HB := n0_; clear n0_; (try clear hb); (try clear hb2); (try clear hk); (try clear hi)))
                      go_roundg k1
                      case measure => have := HK1.out; omega
                      case rel => exact ⟨(x3_1 ++ t179), (wrap64 (x4_1 + t154)), (by first | rfl | (simp; done) | (simp [*]; done)), (by first | rfl | (simp; done) | (simp [*]; done)), H', ⟨by have := HK1.out; omega⟩, ⟨by repeat (first | (with_reducible first | exact HB.out | apply below_alloc | apply pw_below_drewN | apply below_drew1) | exact HB.out)⟩⟩
                    · rw [if_neg c76] at H
                      exact absurd H (by simp)
                · replace c65 := Bool.eq_false_iff.mpr c65
                  subst c65
                  have H1 : ((spec_l1In.f t153 1072 1103).bind fun t180 => (if t180 = true then ((spec_l19Put.f (wrap64 (t153 - 32))).bind fun t181 => (if x3_1.size + t181.size ≤ 9223372036854775807 then (spec_Upper.l0 k1 a0 (x3_1 ++ t181) (wrap64 (x4_1 + t154))) else (none))) else ((spec_l19Put.f t153).bind fun t182 => (if x3_1.size + t182.size ≤ 9223372036854775807 then (spec_Upper.l0 k1 a0 (x3_1 ++ t182) (wrap64 (x4_1 + t154))) else (none))))) = some r := by rw [if_neg (show ¬ (false = true) by decide)] at H; exact H
                  clear H
                  have H := H1
                  clear H1
                  replace H := Option.bind_eq_some_iff.mp H
                  obtain ⟨t180, A780, H⟩ := H
                  replace H : (if t180 = true then ((spec_l19Put.f (wrap64 (t153 - 32))).bind fun t181 => (if x3_1.size + t181.size ≤ 9223372036854775807 then (spec_Upper.l0 k1 a0 (x3_1 ++ t181) (wrap64 (x4_1 + t154))) else (none))) else ((spec_l19Put.f t153).bind fun t182 => (if x3_1.size + t182.size ≤ 9223372036854775807 then (spec_Upper.l0 k1 a0 (x3_1 ++ t182) (wrap64 (x4_1 + t154))) else (none)))) = some r := H
                  have A78 := Aside0.mk A780
                  clear A780
                  by_cases c79 : t180 = true
                  · subst c79
                    have H1 : ((spec_l19Put.f (wrap64 (t153 - 32))).bind fun t181 => (if x3_1.size + t181.size ≤ 9223372036854775807 then (spec_Upper.l0 k1 a0 (x3_1 ++ t181) (wrap64 (x4_1 + t154))) else (none))) = some r := by rw [if_pos rfl] at H; exact H
                    clear H
                    have H := H1
                    clear H1
                    replace H := Option.bind_eq_some_iff.mp H
                    obtain ⟨t181, A800, H⟩ := H
                    replace H : (if x3_1.size + t181.size ≤ 9223372036854775807 then (spec_Upper.l0 k1 a0 (x3_1 ++ t181) (wrap64 (x4_1 + t154))) else (none)) = some r := H
                    have A80 := Aside0.mk A800
                    clear A800
                    by_cases c81 : x3_1.size + t181.size ≤ 9223372036854775807
                    · rw [if_pos c81] at H
                      have c81b0 := eq_true c81
                      have c81b1 : decide (x3_1.size + t181.size ≤ 9223372036854775807) = true := decide_eq_true c81
                      try have c81b2 : (9223372036854775807 < x3_1.size + t181.size) = False := eq_false (Nat.not_lt.2 c81)
                      have H' := Aside0.mk H
                      clear H
                      go_wp2_with (first | ((with_reducible refine gate_callee (f := 21) rfl ?_); refine goesL_ (some 17) rfl rfl Tryd.func21 (by kernel_rfl) rfl #[.string a0, .int .i64 x4_1] rfl (by (try simp only [List.map_toArray, List.map_cons, List.map_nil]); first | done | rfl | (simp only [List.length_drop, List.length_take]; rfl)) ?_; (with_reducible refine (spec_l19Rune.calls a0 x4_1 t153 t154 _ A5.out).mono ?_); rintro e w' ⟨rfl, ⟨nd, rfl⟩⟩; refine ⟨_, rfl, ?_⟩) | (go_at_call 23; (with_reducible refine (spec_l1In.calls t153 224 254 true _ A61.out).mono ?_); rintro e w' ⟨rfl, ⟨nd, rfl⟩⟩) | (go_at_call 23; (with_reducible refine (spec_l1In.calls t153 945 969 false _ A64.out).mono ?_); rintro e w' ⟨rfl, ⟨nd, rfl⟩⟩) | (go_at_call 23; (with_reducible refine (spec_l1In.calls t153 1072 1103 true _ A78.out).mono ?_); rintro e w' ⟨rfl, ⟨nd, rfl⟩⟩) | ((with_reducible refine gate_callee (f := 34) rfl ?_); refine goesL_ (some 50) rfl rfl Tryd.func34 (by kernel_rfl) rfl #[.int .i64 (wrap64 (t153 - 32))] rfl (by (try simp only [List.map_toArray, List.map_cons, List.map_nil]); first | done | rfl | (simp only [List.length_drop, List.length_take]; rfl)) ?_; (with_reducible refine (spec_l19Put.calls (wrap64 (t153 - 32)) t181 _ A80.out).mono ?_); rintro e w82 ⟨rfl, hb⟩; refine ⟨_, rfl, ?_⟩; have n0_ := Aside0.mk (below_step (by repeat (first | (with_reducible first | exact HB.out | apply below_alloc | apply pw_below_drewN | apply below_drew1) | exact HB.out)) hb); clear HB; have HB := n0_; clear n0_; (try clear hb); (try clear hb2); (try clear hk); (try clear hi)))
                      go_roundg k1
                      case measure => have := HK1.out; omega
                      case rel => exact ⟨(x3_1 ++ t181), (wrap64 (x4_1 + t154)), (by first | rfl | (simp; done) | (simp [*]; done)), (by first | rfl | (simp; done) | (simp [*]; done)), H', ⟨by have := HK1.out; omega⟩, ⟨by repeat (first | (with_reducible first | exact HB.out | apply below_alloc | apply pw_below_drewN | apply below_drew1) | exact HB.out)⟩⟩
                    · rw [if_neg c81] at H
                      exact absurd H (by simp)
                  · replace c79 := Bool.eq_false_iff.mpr c79
                    subst c79
                    have H1 : ((spec_l19Put.f t153).bind fun t182 => (if x3_1.size + t182.size ≤ 9223372036854775807 then (spec_Upper.l0 k1 a0 (x3_1 ++ t182) (wrap64 (x4_1 + t154))) else (none))) = some r := by rw [if_neg (show ¬ (false = true) by decide)] at H; exact H
                    clear H
                    have H := H1
                    clear H1
                    replace H := Option.bind_eq_some_iff.mp H
                    obtain ⟨t182, A830, H⟩ := H
                    replace H : (if x3_1.size + t182.size ≤ 9223372036854775807 then (spec_Upper.l0 k1 a0 (x3_1 ++ t182) (wrap64 (x4_1 + t154))) else (none)) = some r := H
                    have A83 := Aside0.mk A830
                    clear A830
                    by_cases c84 : x3_1.size + t182.size ≤ 9223372036854775807
                    · rw [if_pos c84] at H
                      have c84b0 := eq_true c84
                      have c84b1 : decide (x3_1.size + t182.size ≤ 9223372036854775807) = true := decide_eq_true c84
                      try have c84b2 : (9223372036854775807 < x3_1.size + t182.size) = False := eq_false (Nat.not_lt.2 c84)
                      have H' := Aside0.mk H
                      clear H
                      go_wp2_with (first | ((with_reducible refine gate_callee (f := 21) rfl ?_); refine goesL_ (some 17) rfl rfl Tryd.func21 (by kernel_rfl) rfl #[.string a0, .int .i64 x4_1] rfl (by (try simp only [List.map_toArray, List.map_cons, List.map_nil]); first | done | rfl | (simp only [List.length_drop, List.length_take]; rfl)) ?_; (with_reducible refine (spec_l19Rune.calls a0 x4_1 t153 t154 _ A5.out).mono ?_); rintro e w' ⟨rfl, ⟨nd, rfl⟩⟩; refine ⟨_, rfl, ?_⟩) | (go_at_call 23; (with_reducible refine (spec_l1In.calls t153 224 254 true _ A61.out).mono ?_); rintro e w' ⟨rfl, ⟨nd, rfl⟩⟩) | (go_at_call 23; (with_reducible refine (spec_l1In.calls t153 945 969 false _ A64.out).mono ?_); rintro e w' ⟨rfl, ⟨nd, rfl⟩⟩) | (go_at_call 23; (with_reducible refine (spec_l1In.calls t153 1072 1103 false _ A78.out).mono ?_); rintro e w' ⟨rfl, ⟨nd, rfl⟩⟩) | ((with_reducible refine gate_callee (f := 34) rfl ?_); refine goesL_ (some 50) rfl rfl Tryd.func34 (by kernel_rfl) rfl #[.int .i64 t153] rfl (by (try simp only [List.map_toArray, List.map_cons, List.map_nil]); first | done | rfl | (simp only [List.length_drop, List.length_take]; rfl)) ?_; (with_reducible refine (spec_l19Put.calls t153 t182 _ A83.out).mono ?_); rintro e w85 ⟨rfl, hb⟩; refine ⟨_, rfl, ?_⟩; have n0_ := Aside0.mk (below_step (by repeat (first | (with_reducible first | exact HB.out | apply below_alloc | apply pw_below_drewN | apply below_drew1) | exact HB.out)) hb); clear HB; have HB := n0_; clear n0_; (try clear hb); (try clear hb2); (try clear hk); (try clear hi)))
                      go_roundg k1
                      case measure => have := HK1.out; omega
                      case rel => exact ⟨(x3_1 ++ t182), (wrap64 (x4_1 + t154)), (by first | rfl | (simp; done) | (simp [*]; done)), (by first | rfl | (simp; done) | (simp [*]; done)), H', ⟨by have := HK1.out; omega⟩, ⟨by repeat (first | (with_reducible first | exact HB.out | apply below_alloc | apply pw_below_drewN | apply below_drew1) | exact HB.out)⟩⟩
                    · rw [if_neg c84] at H
                      exact absurd H (by simp)
              · rw [if_neg c63] at H
                have c63b0 : (t153 == 247) = false := beq_eq_false_iff_ne.mpr c63
                have c63b1 : (t153 != 247) = true := bne_iff_ne.mpr c63
                replace H := Option.bind_eq_some_iff.mp H
                obtain ⟨t183, A860, H⟩ := H
                replace H : (if x3_1.size + t183.size ≤ 9223372036854775807 then (spec_Upper.l0 k1 a0 (x3_1 ++ t183) (wrap64 (x4_1 + t154))) else (none)) = some r := H
                have A86 := Aside0.mk A860
                clear A860
                by_cases c87 : x3_1.size + t183.size ≤ 9223372036854775807
                · rw [if_pos c87] at H
                  have c87b0 := eq_true c87
                  have c87b1 : decide (x3_1.size + t183.size ≤ 9223372036854775807) = true := decide_eq_true c87
                  try have c87b2 : (9223372036854775807 < x3_1.size + t183.size) = False := eq_false (Nat.not_lt.2 c87)
                  have H' := Aside0.mk H
                  clear H
                  go_wp2_with (first | ((with_reducible refine gate_callee (f := 21) rfl ?_); refine goesL_ (some 17) rfl rfl Tryd.func21 (by kernel_rfl) rfl #[.string a0, .int .i64 x4_1] rfl (by (try simp only [List.map_toArray, List.map_cons, List.map_nil]); first | done | rfl | (simp only [List.length_drop, List.length_take]; rfl)) ?_; (with_reducible refine (spec_l19Rune.calls a0 x4_1 t153 t154 _ A5.out).mono ?_); rintro e w' ⟨rfl, ⟨nd, rfl⟩⟩; refine ⟨_, rfl, ?_⟩) | (go_at_call 23; (with_reducible refine (spec_l1In.calls t153 224 254 true _ A61.out).mono ?_); rintro e w' ⟨rfl, ⟨nd, rfl⟩⟩) | ((with_reducible refine gate_callee (f := 34) rfl ?_); refine goesL_ (some 50) rfl rfl Tryd.func34 (by kernel_rfl) rfl #[.int .i64 (wrap64 (t153 - 32))] rfl (by (try simp only [List.map_toArray, List.map_cons, List.map_nil]); first | done | rfl | (simp only [List.length_drop, List.length_take]; rfl)) ?_; (with_reducible refine (spec_l19Put.calls (wrap64 (t153 - 32)) t183 _ A86.out).mono ?_); rintro e w88 ⟨rfl, hb⟩; refine ⟨_, rfl, ?_⟩; have n0_ := Aside0.mk (below_step (by repeat (first | (with_reducible first | exact HB.out | apply below_alloc | apply pw_below_drewN | apply below_drew1) | exact HB.out)) hb); clear HB; have HB := n0_; clear n0_; (try clear hb); (try clear hb2); (try clear hk); (try clear hi)))
                  go_roundg k1
                  case measure => have := HK1.out; omega
                  case rel => exact ⟨(x3_1 ++ t183), (wrap64 (x4_1 + t154)), (by first | rfl | (simp; done) | (simp [*]; done)), (by first | rfl | (simp; done) | (simp [*]; done)), H', ⟨by have := HK1.out; omega⟩, ⟨by repeat (first | (with_reducible first | exact HB.out | apply below_alloc | apply pw_below_drewN | apply below_drew1) | exact HB.out)⟩⟩
                · rw [if_neg c87] at H
                  exact absurd H (by simp)
            · replace c62 := Bool.eq_false_iff.mpr c62
              subst c62
              have H1 : ((spec_l1In.f t153 945 969).bind fun t184 => (if t184 = true then (if t153 = 962 then ((spec_l1In.f t153 1072 1103).bind fun t185 => (if t185 = true then ((spec_l19Put.f (wrap64 (t153 - 32))).bind fun t186 => (if x3_1.size + t186.size ≤ 9223372036854775807 then (spec_Upper.l0 k1 a0 (x3_1 ++ t186) (wrap64 (x4_1 + t154))) else (none))) else ((spec_l19Put.f t153).bind fun t187 => (if x3_1.size + t187.size ≤ 9223372036854775807 then (spec_Upper.l0 k1 a0 (x3_1 ++ t187) (wrap64 (x4_1 + t154))) else (none))))) else ((spec_l19Put.f (wrap64 (t153 - 32))).bind fun t188 => (if x3_1.size + t188.size ≤ 9223372036854775807 then (spec_Upper.l0 k1 a0 (x3_1 ++ t188) (wrap64 (x4_1 + t154))) else (none)))) else ((spec_l1In.f t153 1072 1103).bind fun t189 => (if t189 = true then ((spec_l19Put.f (wrap64 (t153 - 32))).bind fun t190 => (if x3_1.size + t190.size ≤ 9223372036854775807 then (spec_Upper.l0 k1 a0 (x3_1 ++ t190) (wrap64 (x4_1 + t154))) else (none))) else ((spec_l19Put.f t153).bind fun t191 => (if x3_1.size + t191.size ≤ 9223372036854775807 then (spec_Upper.l0 k1 a0 (x3_1 ++ t191) (wrap64 (x4_1 + t154))) else (none))))))) = some r := by rw [if_neg (show ¬ (false = true) by decide)] at H; exact H
              clear H
              have H := H1
              clear H1
              replace H := Option.bind_eq_some_iff.mp H
              obtain ⟨t184, A890, H⟩ := H
              replace H : (if t184 = true then (if t153 = 962 then ((spec_l1In.f t153 1072 1103).bind fun t185 => (if t185 = true then ((spec_l19Put.f (wrap64 (t153 - 32))).bind fun t186 => (if x3_1.size + t186.size ≤ 9223372036854775807 then (spec_Upper.l0 k1 a0 (x3_1 ++ t186) (wrap64 (x4_1 + t154))) else (none))) else ((spec_l19Put.f t153).bind fun t187 => (if x3_1.size + t187.size ≤ 9223372036854775807 then (spec_Upper.l0 k1 a0 (x3_1 ++ t187) (wrap64 (x4_1 + t154))) else (none))))) else ((spec_l19Put.f (wrap64 (t153 - 32))).bind fun t188 => (if x3_1.size + t188.size ≤ 9223372036854775807 then (spec_Upper.l0 k1 a0 (x3_1 ++ t188) (wrap64 (x4_1 + t154))) else (none)))) else ((spec_l1In.f t153 1072 1103).bind fun t189 => (if t189 = true then ((spec_l19Put.f (wrap64 (t153 - 32))).bind fun t190 => (if x3_1.size + t190.size ≤ 9223372036854775807 then (spec_Upper.l0 k1 a0 (x3_1 ++ t190) (wrap64 (x4_1 + t154))) else (none))) else ((spec_l19Put.f t153).bind fun t191 => (if x3_1.size + t191.size ≤ 9223372036854775807 then (spec_Upper.l0 k1 a0 (x3_1 ++ t191) (wrap64 (x4_1 + t154))) else (none)))))) = some r := H
              have A89 := Aside0.mk A890
              clear A890
              by_cases c90 : t184 = true
              · subst c90
                have H1 : (if t153 = 962 then ((spec_l1In.f t153 1072 1103).bind fun t185 => (if t185 = true then ((spec_l19Put.f (wrap64 (t153 - 32))).bind fun t186 => (if x3_1.size + t186.size ≤ 9223372036854775807 then (spec_Upper.l0 k1 a0 (x3_1 ++ t186) (wrap64 (x4_1 + t154))) else (none))) else ((spec_l19Put.f t153).bind fun t187 => (if x3_1.size + t187.size ≤ 9223372036854775807 then (spec_Upper.l0 k1 a0 (x3_1 ++ t187) (wrap64 (x4_1 + t154))) else (none))))) else ((spec_l19Put.f (wrap64 (t153 - 32))).bind fun t188 => (if x3_1.size + t188.size ≤ 9223372036854775807 then (spec_Upper.l0 k1 a0 (x3_1 ++ t188) (wrap64 (x4_1 + t154))) else (none)))) = some r := by rw [if_pos rfl] at H; exact H
                clear H
                have H := H1
                clear H1
                by_cases c91 : t153 = 962
                · rw [if_pos c91] at H
                  have c91b0 : (t153 == 962) = true := beq_iff_eq.mpr c91
                  have c91b1 : (t153 != 962) = false := bne_eq_false_iff_eq.mpr c91
                  clear c91
                  replace H := Option.bind_eq_some_iff.mp H
                  obtain ⟨t185, A920, H⟩ := H
                  replace H : (if t185 = true then ((spec_l19Put.f (wrap64 (t153 - 32))).bind fun t186 => (if x3_1.size + t186.size ≤ 9223372036854775807 then (spec_Upper.l0 k1 a0 (x3_1 ++ t186) (wrap64 (x4_1 + t154))) else (none))) else ((spec_l19Put.f t153).bind fun t187 => (if x3_1.size + t187.size ≤ 9223372036854775807 then (spec_Upper.l0 k1 a0 (x3_1 ++ t187) (wrap64 (x4_1 + t154))) else (none)))) = some r := H
                  have A92 := Aside0.mk A920
                  clear A920
                  by_cases c93 : t185 = true
                  · subst c93
                    have H1 : ((spec_l19Put.f (wrap64 (t153 - 32))).bind fun t186 => (if x3_1.size + t186.size ≤ 9223372036854775807 then (spec_Upper.l0 k1 a0 (x3_1 ++ t186) (wrap64 (x4_1 + t154))) else (none))) = some r := by rw [if_pos rfl] at H; exact H
                    clear H
                    have H := H1
                    clear H1
                    replace H := Option.bind_eq_some_iff.mp H
                    obtain ⟨t186, A940, H⟩ := H
                    replace H : (if x3_1.size + t186.size ≤ 9223372036854775807 then (spec_Upper.l0 k1 a0 (x3_1 ++ t186) (wrap64 (x4_1 + t154))) else (none)) = some r := H
                    have A94 := Aside0.mk A940
                    clear A940
                    by_cases c95 : x3_1.size + t186.size ≤ 9223372036854775807
                    · rw [if_pos c95] at H
                      have c95b0 := eq_true c95
                      have c95b1 : decide (x3_1.size + t186.size ≤ 9223372036854775807) = true := decide_eq_true c95
                      try have c95b2 : (9223372036854775807 < x3_1.size + t186.size) = False := eq_false (Nat.not_lt.2 c95)
                      have H' := Aside0.mk H
                      clear H
                      go_wp2_with (first | ((with_reducible refine gate_callee (f := 21) rfl ?_); refine goesL_ (some 17) rfl rfl Tryd.func21 (by kernel_rfl) rfl #[.string a0, .int .i64 x4_1] rfl (by (try simp only [List.map_toArray, List.map_cons, List.map_nil]); first | done | rfl | (simp only [List.length_drop, List.length_take]; rfl)) ?_; (with_reducible refine (spec_l19Rune.calls a0 x4_1 t153 t154 _ A5.out).mono ?_); rintro e w' ⟨rfl, ⟨nd, rfl⟩⟩; refine ⟨_, rfl, ?_⟩) | (go_at_call 23; (with_reducible refine (spec_l1In.calls t153 224 254 false _ A61.out).mono ?_); rintro e w' ⟨rfl, ⟨nd, rfl⟩⟩) | (go_at_call 23; (with_reducible refine (spec_l1In.calls t153 945 969 true _ A89.out).mono ?_); rintro e w' ⟨rfl, ⟨nd, rfl⟩⟩) | (go_at_call 23; (with_reducible refine (spec_l1In.calls t153 1072 1103 true _ A92.out).mono ?_); rintro e w' ⟨rfl, ⟨nd, rfl⟩⟩) | ((with_reducible refine gate_callee (f := 34) rfl ?_); refine goesL_ (some 50) rfl rfl Tryd.func34 (by kernel_rfl) rfl #[.int .i64 (wrap64 (t153 - 32))] rfl (by (try simp only [List.map_toArray, List.map_cons, List.map_nil]); first | done | rfl | (simp only [List.length_drop, List.length_take]; rfl)) ?_; (with_reducible refine (spec_l19Put.calls (wrap64 (t153 - 32)) t186 _ A94.out).mono ?_); rintro e w96 ⟨rfl, hb⟩; refine ⟨_, rfl, ?_⟩; have n0_ := Aside0.mk (below_step (by repeat (first | (with_reducible first | exact HB.out | apply below_alloc | apply pw_below_drewN | apply below_drew1) | exact HB.out)) hb); clear HB; have HB := n0_; clear n0_; (try clear hb); (try clear hb2); (try clear hk); (try clear hi)))
                      go_roundg k1
                      case measure => have := HK1.out; omega
                      case rel => exact ⟨(x3_1 ++ t186), (wrap64 (x4_1 + t154)), (by first | rfl | (simp; done) | (simp [*]; done)), (by first | rfl | (simp; done) | (simp [*]; done)), H', ⟨by have := HK1.out; omega⟩, ⟨by repeat (first | (with_reducible first | exact HB.out | apply below_alloc | apply pw_below_drewN | apply below_drew1) | exact HB.out)⟩⟩
                    · rw [if_neg c95] at H
                      exact absurd H (by simp)
                  · replace c93 := Bool.eq_false_iff.mpr c93
                    subst c93
                    have H1 : ((spec_l19Put.f t153).bind fun t187 => (if x3_1.size + t187.size ≤ 9223372036854775807 then (spec_Upper.l0 k1 a0 (x3_1 ++ t187) (wrap64 (x4_1 + t154))) else (none))) = some r := by rw [if_neg (show ¬ (false = true) by decide)] at H; exact H
                    clear H
                    have H := H1
                    clear H1
                    replace H := Option.bind_eq_some_iff.mp H
                    obtain ⟨t187, A970, H⟩ := H
                    replace H : (if x3_1.size + t187.size ≤ 9223372036854775807 then (spec_Upper.l0 k1 a0 (x3_1 ++ t187) (wrap64 (x4_1 + t154))) else (none)) = some r := H
                    have A97 := Aside0.mk A970
                    clear A970
                    by_cases c98 : x3_1.size + t187.size ≤ 9223372036854775807
                    · rw [if_pos c98] at H
                      have c98b0 := eq_true c98
                      have c98b1 : decide (x3_1.size + t187.size ≤ 9223372036854775807) = true := decide_eq_true c98
                      try have c98b2 : (9223372036854775807 < x3_1.size + t187.size) = False := eq_false (Nat.not_lt.2 c98)
                      have H' := Aside0.mk H
                      clear H
                      go_wp2_with (first | ((with_reducible refine gate_callee (f := 21) rfl ?_); refine goesL_ (some 17) rfl rfl Tryd.func21 (by kernel_rfl) rfl #[.string a0, .int .i64 x4_1] rfl (by (try simp only [List.map_toArray, List.map_cons, List.map_nil]); first | done | rfl | (simp only [List.length_drop, List.length_take]; rfl)) ?_; (with_reducible refine (spec_l19Rune.calls a0 x4_1 t153 t154 _ A5.out).mono ?_); rintro e w' ⟨rfl, ⟨nd, rfl⟩⟩; refine ⟨_, rfl, ?_⟩) | (go_at_call 23; (with_reducible refine (spec_l1In.calls t153 224 254 false _ A61.out).mono ?_); rintro e w' ⟨rfl, ⟨nd, rfl⟩⟩) | (go_at_call 23; (with_reducible refine (spec_l1In.calls t153 945 969 true _ A89.out).mono ?_); rintro e w' ⟨rfl, ⟨nd, rfl⟩⟩) | (go_at_call 23; (with_reducible refine (spec_l1In.calls t153 1072 1103 false _ A92.out).mono ?_); rintro e w' ⟨rfl, ⟨nd, rfl⟩⟩) | ((with_reducible refine gate_callee (f := 34) rfl ?_); refine goesL_ (some 50) rfl rfl Tryd.func34 (by kernel_rfl) rfl #[.int .i64 t153] rfl (by (try simp only [List.map_toArray, List.map_cons, List.map_nil]); first | done | rfl | (simp only [List.length_drop, List.length_take]; rfl)) ?_; (with_reducible refine (spec_l19Put.calls t153 t187 _ A97.out).mono ?_); rintro e w99 ⟨rfl, hb⟩; refine ⟨_, rfl, ?_⟩; have n0_ := Aside0.mk (below_step (by repeat (first | (with_reducible first | exact HB.out | apply below_alloc | apply pw_below_drewN | apply below_drew1) | exact HB.out)) hb); clear HB; have HB := n0_; clear n0_; (try clear hb); (try clear hb2); (try clear hk); (try clear hi)))
                      go_roundg k1
                      case measure => have := HK1.out; omega
                      case rel => exact ⟨(x3_1 ++ t187), (wrap64 (x4_1 + t154)), (by first | rfl | (simp; done) | (simp [*]; done)), (by first | rfl | (simp; done) | (simp [*]; done)), H', ⟨by have := HK1.out; omega⟩, ⟨by repeat (first | (with_reducible first | exact HB.out | apply below_alloc | apply pw_below_drewN | apply below_drew1) | exact HB.out)⟩⟩
                    · rw [if_neg c98] at H
                      exact absurd H (by simp)
                · rw [if_neg c91] at H
                  have c91b0 : (t153 == 962) = false := beq_eq_false_iff_ne.mpr c91
                  have c91b1 : (t153 != 962) = true := bne_iff_ne.mpr c91
                  replace H := Option.bind_eq_some_iff.mp H
                  obtain ⟨t188, A1000, H⟩ := H
                  replace H : (if x3_1.size + t188.size ≤ 9223372036854775807 then (spec_Upper.l0 k1 a0 (x3_1 ++ t188) (wrap64 (x4_1 + t154))) else (none)) = some r := H
                  have A100 := Aside0.mk A1000
                  clear A1000
                  by_cases c101 : x3_1.size + t188.size ≤ 9223372036854775807
                  · rw [if_pos c101] at H
                    have c101b0 := eq_true c101
                    have c101b1 : decide (x3_1.size + t188.size ≤ 9223372036854775807) = true := decide_eq_true c101
                    try have c101b2 : (9223372036854775807 < x3_1.size + t188.size) = False := eq_false (Nat.not_lt.2 c101)
                    have H' := Aside0.mk H
                    clear H
                    go_wp2_with (first | ((with_reducible refine gate_callee (f := 21) rfl ?_); refine goesL_ (some 17) rfl rfl Tryd.func21 (by kernel_rfl) rfl #[.string a0, .int .i64 x4_1] rfl (by (try simp only [List.map_toArray, List.map_cons, List.map_nil]); first | done | rfl | (simp only [List.length_drop, List.length_take]; rfl)) ?_; (with_reducible refine (spec_l19Rune.calls a0 x4_1 t153 t154 _ A5.out).mono ?_); rintro e w' ⟨rfl, ⟨nd, rfl⟩⟩; refine ⟨_, rfl, ?_⟩) | (go_at_call 23; (with_reducible refine (spec_l1In.calls t153 224 254 false _ A61.out).mono ?_); rintro e w' ⟨rfl, ⟨nd, rfl⟩⟩) | (go_at_call 23; (with_reducible refine (spec_l1In.calls t153 945 969 true _ A89.out).mono ?_); rintro e w' ⟨rfl, ⟨nd, rfl⟩⟩) | ((with_reducible refine gate_callee (f := 34) rfl ?_); refine goesL_ (some 50) rfl rfl Tryd.func34 (by kernel_rfl) rfl #[.int .i64 (wrap64 (t153 - 32))] rfl (by (try simp only [List.map_toArray, List.map_cons, List.map_nil]); first | done | rfl | (simp only [List.length_drop, List.length_take]; rfl)) ?_; (with_reducible refine (spec_l19Put.calls (wrap64 (t153 - 32)) t188 _ A100.out).mono ?_); rintro e w102 ⟨rfl, hb⟩; refine ⟨_, rfl, ?_⟩; have n0_ := Aside0.mk (below_step (by repeat (first | (with_reducible first | exact HB.out | apply below_alloc | apply pw_below_drewN | apply below_drew1) | exact HB.out)) hb); clear HB; have HB := n0_; clear n0_; (try clear hb); (try clear hb2); (try clear hk); (try clear hi)))
                    go_roundg k1
                    case measure => have := HK1.out; omega
                    case rel => exact ⟨(x3_1 ++ t188), (wrap64 (x4_1 + t154)), (by first | rfl | (simp; done) | (simp [*]; done)), (by first | rfl | (simp; done) | (simp [*]; done)), H', ⟨by have := HK1.out; omega⟩, ⟨by repeat (first | (with_reducible first | exact HB.out | apply below_alloc | apply pw_below_drewN | apply below_drew1) | exact HB.out)⟩⟩
                  · rw [if_neg c101] at H
                    exact absurd H (by simp)
              · replace c90 := Bool.eq_false_iff.mpr c90
                subst c90
                have H1 : ((spec_l1In.f t153 1072 1103).bind fun t189 => (if t189 = true then ((spec_l19Put.f (wrap64 (t153 - 32))).bind fun t190 => (if x3_1.size + t190.size ≤ 9223372036854775807 then (spec_Upper.l0 k1 a0 (x3_1 ++ t190) (wrap64 (x4_1 + t154))) else (none))) else ((spec_l19Put.f t153).bind fun t191 => (if x3_1.size + t191.size ≤ 9223372036854775807 then (spec_Upper.l0 k1 a0 (x3_1 ++ t191) (wrap64 (x4_1 + t154))) else (none))))) = some r := by rw [if_neg (show ¬ (false = true) by decide)] at H; exact H
                clear H
                have H := H1
                clear H1
                replace H := Option.bind_eq_some_iff.mp H
                obtain ⟨t189, A1030, H⟩ := H
                replace H : (if t189 = true then ((spec_l19Put.f (wrap64 (t153 - 32))).bind fun t190 => (if x3_1.size + t190.size ≤ 9223372036854775807 then (spec_Upper.l0 k1 a0 (x3_1 ++ t190) (wrap64 (x4_1 + t154))) else (none))) else ((spec_l19Put.f t153).bind fun t191 => (if x3_1.size + t191.size ≤ 9223372036854775807 then (spec_Upper.l0 k1 a0 (x3_1 ++ t191) (wrap64 (x4_1 + t154))) else (none)))) = some r := H
                have A103 := Aside0.mk A1030
                clear A1030
                by_cases c104 : t189 = true
                · subst c104
                  have H1 : ((spec_l19Put.f (wrap64 (t153 - 32))).bind fun t190 => (if x3_1.size + t190.size ≤ 9223372036854775807 then (spec_Upper.l0 k1 a0 (x3_1 ++ t190) (wrap64 (x4_1 + t154))) else (none))) = some r := by rw [if_pos rfl] at H; exact H
                  clear H
                  have H := H1
                  clear H1
                  replace H := Option.bind_eq_some_iff.mp H
                  obtain ⟨t190, A1050, H⟩ := H
                  replace H : (if x3_1.size + t190.size ≤ 9223372036854775807 then (spec_Upper.l0 k1 a0 (x3_1 ++ t190) (wrap64 (x4_1 + t154))) else (none)) = some r := H
                  have A105 := Aside0.mk A1050
                  clear A1050
                  by_cases c106 : x3_1.size + t190.size ≤ 9223372036854775807
                  · rw [if_pos c106] at H
                    have c106b0 := eq_true c106
                    have c106b1 : decide (x3_1.size + t190.size ≤ 9223372036854775807) = true := decide_eq_true c106
                    try have c106b2 : (9223372036854775807 < x3_1.size + t190.size) = False := eq_false (Nat.not_lt.2 c106)
                    have H' := Aside0.mk H
                    clear H
                    go_wp2_with (first | ((with_reducible refine gate_callee (f := 21) rfl ?_); refine goesL_ (some 17) rfl rfl Tryd.func21 (by kernel_rfl) rfl #[.string a0, .int .i64 x4_1] rfl (by (try simp only [List.map_toArray, List.map_cons, List.map_nil]); first | done | rfl | (simp only [List.length_drop, List.length_take]; rfl)) ?_; (with_reducible refine (spec_l19Rune.calls a0 x4_1 t153 t154 _ A5.out).mono ?_); rintro e w' ⟨rfl, ⟨nd, rfl⟩⟩; refine ⟨_, rfl, ?_⟩) | (go_at_call 23; (with_reducible refine (spec_l1In.calls t153 224 254 false _ A61.out).mono ?_); rintro e w' ⟨rfl, ⟨nd, rfl⟩⟩) | (go_at_call 23; (with_reducible refine (spec_l1In.calls t153 945 969 false _ A89.out).mono ?_); rintro e w' ⟨rfl, ⟨nd, rfl⟩⟩) | (go_at_call 23; (with_reducible refine (spec_l1In.calls t153 1072 1103 true _ A103.out).mono ?_); rintro e w' ⟨rfl, ⟨nd, rfl⟩⟩) | ((with_reducible refine gate_callee (f := 34) rfl ?_); refine goesL_ (some 50) rfl rfl Tryd.func34 (by kernel_rfl) rfl #[.int .i64 (wrap64 (t153 - 32))] rfl (by (try simp only [List.map_toArray, List.map_cons, List.map_nil]); first | done | rfl | (simp only [List.length_drop, List.length_take]; rfl)) ?_; (with_reducible refine (spec_l19Put.calls (wrap64 (t153 - 32)) t190 _ A105.out).mono ?_); rintro e w107 ⟨rfl, hb⟩; refine ⟨_, rfl, ?_⟩; have n0_ := Aside0.mk (below_step (by repeat (first | (with_reducible first | exact HB.out | apply below_alloc | apply pw_below_drewN | apply below_drew1) | exact HB.out)) hb); clear HB; have HB := n0_; clear n0_; (try clear hb); (try clear hb2); (try clear hk); (try clear hi)))
                    go_roundg k1
                    case measure => have := HK1.out; omega
                    case rel => exact ⟨(x3_1 ++ t190), (wrap64 (x4_1 + t154)), (by first | rfl | (simp; done) | (simp [*]; done)), (by first | rfl | (simp; done) | (simp [*]; done)), H', ⟨by have := HK1.out; omega⟩, ⟨by repeat (first | (with_reducible first | exact HB.out | apply below_alloc | apply pw_below_drewN | apply below_drew1) | exact HB.out)⟩⟩
                  · rw [if_neg c106] at H
                    exact absurd H (by simp)
                · replace c104 := Bool.eq_false_iff.mpr c104
                  subst c104
                  have H1 : ((spec_l19Put.f t153).bind fun t191 => (if x3_1.size + t191.size ≤ 9223372036854775807 then (spec_Upper.l0 k1 a0 (x3_1 ++ t191) (wrap64 (x4_1 + t154))) else (none))) = some r := by rw [if_neg (show ¬ (false = true) by decide)] at H; exact H
                  clear H
                  have H := H1
                  clear H1
                  replace H := Option.bind_eq_some_iff.mp H
                  obtain ⟨t191, A1080, H⟩ := H
                  replace H : (if x3_1.size + t191.size ≤ 9223372036854775807 then (spec_Upper.l0 k1 a0 (x3_1 ++ t191) (wrap64 (x4_1 + t154))) else (none)) = some r := H
                  have A108 := Aside0.mk A1080
                  clear A1080
                  by_cases c109 : x3_1.size + t191.size ≤ 9223372036854775807
                  · rw [if_pos c109] at H
                    have c109b0 := eq_true c109
                    have c109b1 : decide (x3_1.size + t191.size ≤ 9223372036854775807) = true := decide_eq_true c109
                    try have c109b2 : (9223372036854775807 < x3_1.size + t191.size) = False := eq_false (Nat.not_lt.2 c109)
                    have H' := Aside0.mk H
                    clear H
                    go_wp2_with (first | ((with_reducible refine gate_callee (f := 21) rfl ?_); refine goesL_ (some 17) rfl rfl Tryd.func21 (by kernel_rfl) rfl #[.string a0, .int .i64 x4_1] rfl (by (try simp only [List.map_toArray, List.map_cons, List.map_nil]); first | done | rfl | (simp only [List.length_drop, List.length_take]; rfl)) ?_; (with_reducible refine (spec_l19Rune.calls a0 x4_1 t153 t154 _ A5.out).mono ?_); rintro e w' ⟨rfl, ⟨nd, rfl⟩⟩; refine ⟨_, rfl, ?_⟩) | (go_at_call 23; (with_reducible refine (spec_l1In.calls t153 224 254 false _ A61.out).mono ?_); rintro e w' ⟨rfl, ⟨nd, rfl⟩⟩) | (go_at_call 23; (with_reducible refine (spec_l1In.calls t153 945 969 false _ A89.out).mono ?_); rintro e w' ⟨rfl, ⟨nd, rfl⟩⟩) | (go_at_call 23; (with_reducible refine (spec_l1In.calls t153 1072 1103 false _ A103.out).mono ?_); rintro e w' ⟨rfl, ⟨nd, rfl⟩⟩) | ((with_reducible refine gate_callee (f := 34) rfl ?_); refine goesL_ (some 50) rfl rfl Tryd.func34 (by kernel_rfl) rfl #[.int .i64 t153] rfl (by (try simp only [List.map_toArray, List.map_cons, List.map_nil]); first | done | rfl | (simp only [List.length_drop, List.length_take]; rfl)) ?_; (with_reducible refine (spec_l19Put.calls t153 t191 _ A108.out).mono ?_); rintro e w110 ⟨rfl, hb⟩; refine ⟨_, rfl, ?_⟩; have n0_ := Aside0.mk (below_step (by repeat (first | (with_reducible first | exact HB.out | apply below_alloc | apply pw_below_drewN | apply below_drew1) | exact HB.out)) hb); clear HB; have HB := n0_; clear n0_; (try clear hb); (try clear hb2); (try clear hk); (try clear hi)))
                    go_roundg k1
                    case measure => have := HK1.out; omega
                    case rel => exact ⟨(x3_1 ++ t191), (wrap64 (x4_1 + t154)), (by first | rfl | (simp; done) | (simp [*]; done)), (by first | rfl | (simp; done) | (simp [*]; done)), H', ⟨by have := HK1.out; omega⟩, ⟨by repeat (first | (with_reducible first | exact HB.out | apply below_alloc | apply pw_below_drewN | apply below_drew1) | exact HB.out)⟩⟩
                  · rw [if_neg c109] at H
                    exact absurd H (by simp)
        · rw [if_neg c4] at H
          have c4b0 : decide (x4_1 < (a0.size : Int)) = false := decide_eq_false c4
          clear c4
          obtain rfl := Option.some.inj H
          go_wp2
          go_ret
          exact ⟨by first | rfl | (simp [errW_none, errW_some] <;> rfl) | (simp [*, errW_none, errW_some] <;> rfl), by repeat (first | (with_reducible first | exact HB.out | apply below_alloc | apply pw_below_drewN | apply below_drew1) | exact HB.out)⟩
  · replace c3 := Bool.eq_false_iff.mpr c3
    subst c3
    have H1 : (some (⟨#[]⟩ : ByteArray)) = some r := by rw [if_neg (show ¬ (false = true) by decide)] at H; exact H
    clear H
    have H := H1
    clear H1
    obtain rfl := Option.some.inj H
    go_enter Tryd.func15, Tryd.ntmps15
    go_wp2_with (first | ((with_reducible refine gate_callee (f := 8) rfl ?_); refine goesL_ (some 8) rfl rfl Tryd.func8 (by kernel_rfl) rfl #[.string a0] rfl (by (try simp only [List.map_toArray, List.map_cons, List.map_nil]); first | done | rfl | (simp only [List.length_drop, List.length_take]; rfl)) ?_; (with_reducible refine (spec_WordOk.calls k a0 false _ A2.out).mono ?_); rintro e w' ⟨rfl, ⟨nd, rfl⟩⟩; refine ⟨_, rfl, ?_⟩))
    go_ret
    exact ⟨by first | rfl | (simp [errW_none, errW_some] <;> rfl) | (simp [*, errW_none, errW_some] <;> rfl), by repeat (first | (with_reducible first | exact HB.out | apply below_alloc | apply pw_below_drewN | apply below_drew1) | exact HB.out)⟩

end Go.Proofs.YtjenfcocegbmdaaDoor.MFnExactUpper
