/- The functions that the law FnUpper reaches, as plain functions, and that the code comes to them. Begun as a text of the print over stubs; turned by wip/handstub.py and wip/mend.py. -/
import Derived.Test.YtjenfcocegbmdaaDoorMFnUpperx0
import Derived.Test.YtjenfcocegbmdaaDoorMFnUpperx1
import Derived.Test.YtjenfcocegbmdaaDoorMFnUpperx3
import Derived.Test.YtjenfcocegbmdaaDoorMFnUpperx4
namespace Go.Proofs.YtjenfcocegbmdaaDoor.MFnUpper
open Go.RowKit Go.Proofs.YtjenfcocegbmdaaDoorW.PrintWords Go.Proofs.YtjenfcocegbmdaaDoorW.PrintLast Go.Proofs.YtjenfcocegbmdaaDoorW.PrintMore
attribute [local go_sem] max2_int min2_int max_two min_two max_three min_three max_four min_four   -- for this text's walks alone
set_option linter.unusedVariables false
set_option linter.unusedSimpArgs false

/-! ### spec_Upper: function 15 -/
def spec_Upper.l0 : Nat → ByteArray → ByteArray → Int → Option (ByteArray)
  | 0, _, _, _ => none
  | k + 1, x0, x3, x4 => if x4 < (x0.size : Int) then ((spec_l19Rune.f x0 x4).bind fun bt180 => (if bt180.1 ≥ 97 then (if bt180.1 ≤ 122 then ((spec_l19Put.f (wrap64 (bt180.1 - 32))).bind fun t182 => (if x3.size + t182.size ≤ 9223372036854775807 then (spec_Upper.l0 k x0 (x3 ++ t182) (wrap64 (x4 + bt180.2))) else (none))) else ((spec_l1In.f bt180.1 224 254).bind fun t183 => (if t183 = true then (if bt180.1 = 247 then ((spec_l1In.f bt180.1 945 969).bind fun t184 => (if t184 = true then (if bt180.1 = 962 then ((spec_l1In.f bt180.1 1072 1103).bind fun t185 => (if t185 = true then ((spec_l19Put.f (wrap64 (bt180.1 - 32))).bind fun t186 => (if x3.size + t186.size ≤ 9223372036854775807 then (spec_Upper.l0 k x0 (x3 ++ t186) (wrap64 (x4 + bt180.2))) else (none))) else ((spec_l19Put.f bt180.1).bind fun t187 => (if x3.size + t187.size ≤ 9223372036854775807 then (spec_Upper.l0 k x0 (x3 ++ t187) (wrap64 (x4 + bt180.2))) else (none))))) else ((spec_l19Put.f (wrap64 (bt180.1 - 32))).bind fun t188 => (if x3.size + t188.size ≤ 9223372036854775807 then (spec_Upper.l0 k x0 (x3 ++ t188) (wrap64 (x4 + bt180.2))) else (none)))) else ((spec_l1In.f bt180.1 1072 1103).bind fun t189 => (if t189 = true then ((spec_l19Put.f (wrap64 (bt180.1 - 32))).bind fun t190 => (if x3.size + t190.size ≤ 9223372036854775807 then (spec_Upper.l0 k x0 (x3 ++ t190) (wrap64 (x4 + bt180.2))) else (none))) else ((spec_l19Put.f bt180.1).bind fun t191 => (if x3.size + t191.size ≤ 9223372036854775807 then (spec_Upper.l0 k x0 (x3 ++ t191) (wrap64 (x4 + bt180.2))) else (none))))))) else ((spec_l19Put.f (wrap64 (bt180.1 - 32))).bind fun t192 => (if x3.size + t192.size ≤ 9223372036854775807 then (spec_Upper.l0 k x0 (x3 ++ t192) (wrap64 (x4 + bt180.2))) else (none)))) else ((spec_l1In.f bt180.1 945 969).bind fun t193 => (if t193 = true then (if bt180.1 = 962 then ((spec_l1In.f bt180.1 1072 1103).bind fun t194 => (if t194 = true then ((spec_l19Put.f (wrap64 (bt180.1 - 32))).bind fun t195 => (if x3.size + t195.size ≤ 9223372036854775807 then (spec_Upper.l0 k x0 (x3 ++ t195) (wrap64 (x4 + bt180.2))) else (none))) else ((spec_l19Put.f bt180.1).bind fun t196 => (if x3.size + t196.size ≤ 9223372036854775807 then (spec_Upper.l0 k x0 (x3 ++ t196) (wrap64 (x4 + bt180.2))) else (none))))) else ((spec_l19Put.f (wrap64 (bt180.1 - 32))).bind fun t197 => (if x3.size + t197.size ≤ 9223372036854775807 then (spec_Upper.l0 k x0 (x3 ++ t197) (wrap64 (x4 + bt180.2))) else (none)))) else ((spec_l1In.f bt180.1 1072 1103).bind fun t198 => (if t198 = true then ((spec_l19Put.f (wrap64 (bt180.1 - 32))).bind fun t199 => (if x3.size + t199.size ≤ 9223372036854775807 then (spec_Upper.l0 k x0 (x3 ++ t199) (wrap64 (x4 + bt180.2))) else (none))) else ((spec_l19Put.f bt180.1).bind fun t200 => (if x3.size + t200.size ≤ 9223372036854775807 then (spec_Upper.l0 k x0 (x3 ++ t200) (wrap64 (x4 + bt180.2))) else (none)))))))))) else ((spec_l1In.f bt180.1 224 254).bind fun t201 => (if t201 = true then (if bt180.1 = 247 then ((spec_l1In.f bt180.1 945 969).bind fun t202 => (if t202 = true then (if bt180.1 = 962 then ((spec_l1In.f bt180.1 1072 1103).bind fun t203 => (if t203 = true then ((spec_l19Put.f (wrap64 (bt180.1 - 32))).bind fun t204 => (if x3.size + t204.size ≤ 9223372036854775807 then (spec_Upper.l0 k x0 (x3 ++ t204) (wrap64 (x4 + bt180.2))) else (none))) else ((spec_l19Put.f bt180.1).bind fun t205 => (if x3.size + t205.size ≤ 9223372036854775807 then (spec_Upper.l0 k x0 (x3 ++ t205) (wrap64 (x4 + bt180.2))) else (none))))) else ((spec_l19Put.f (wrap64 (bt180.1 - 32))).bind fun t206 => (if x3.size + t206.size ≤ 9223372036854775807 then (spec_Upper.l0 k x0 (x3 ++ t206) (wrap64 (x4 + bt180.2))) else (none)))) else ((spec_l1In.f bt180.1 1072 1103).bind fun t207 => (if t207 = true then ((spec_l19Put.f (wrap64 (bt180.1 - 32))).bind fun t208 => (if x3.size + t208.size ≤ 9223372036854775807 then (spec_Upper.l0 k x0 (x3 ++ t208) (wrap64 (x4 + bt180.2))) else (none))) else ((spec_l19Put.f bt180.1).bind fun t209 => (if x3.size + t209.size ≤ 9223372036854775807 then (spec_Upper.l0 k x0 (x3 ++ t209) (wrap64 (x4 + bt180.2))) else (none))))))) else ((spec_l19Put.f (wrap64 (bt180.1 - 32))).bind fun t210 => (if x3.size + t210.size ≤ 9223372036854775807 then (spec_Upper.l0 k x0 (x3 ++ t210) (wrap64 (x4 + bt180.2))) else (none)))) else ((spec_l1In.f bt180.1 945 969).bind fun t211 => (if t211 = true then (if bt180.1 = 962 then ((spec_l1In.f bt180.1 1072 1103).bind fun t212 => (if t212 = true then ((spec_l19Put.f (wrap64 (bt180.1 - 32))).bind fun t213 => (if x3.size + t213.size ≤ 9223372036854775807 then (spec_Upper.l0 k x0 (x3 ++ t213) (wrap64 (x4 + bt180.2))) else (none))) else ((spec_l19Put.f bt180.1).bind fun t214 => (if x3.size + t214.size ≤ 9223372036854775807 then (spec_Upper.l0 k x0 (x3 ++ t214) (wrap64 (x4 + bt180.2))) else (none))))) else ((spec_l19Put.f (wrap64 (bt180.1 - 32))).bind fun t215 => (if x3.size + t215.size ≤ 9223372036854775807 then (spec_Upper.l0 k x0 (x3 ++ t215) (wrap64 (x4 + bt180.2))) else (none)))) else ((spec_l1In.f bt180.1 1072 1103).bind fun t216 => (if t216 = true then ((spec_l19Put.f (wrap64 (bt180.1 - 32))).bind fun t217 => (if x3.size + t217.size ≤ 9223372036854775807 then (spec_Upper.l0 k x0 (x3 ++ t217) (wrap64 (x4 + bt180.2))) else (none))) else ((spec_l19Put.f bt180.1).bind fun t218 => (if x3.size + t218.size ≤ 9223372036854775807 then (spec_Upper.l0 k x0 (x3 ++ t218) (wrap64 (x4 + bt180.2))) else (none))))))))))) else (some x3)
def spec_Upper.f (k : Nat) (a0 : ByteArray) : Option (ByteArray) := (spec_WordOk.f k a0).bind fun t179 => (if t179 = true then (spec_Upper.l0 k a0 (⟨#[]⟩ : ByteArray) 0) else (some (⟨#[]⟩ : ByteArray)))
theorem spec_Upper.mono_l : ∀ k, (∀ y0 y1 y2, LeO (spec_Upper.l0 k y0 y1 y2) (spec_Upper.l0 (k + 1) y0 y1 y2))
  | 0 => fun _ _ _ r h => by simp [spec_Upper.l0] at h
  | k + 1 => by
    have ih0 := spec_Upper.mono_l k
    · intro y0 y1 y2
      unfold spec_Upper.l0
      repeat' first
      | (with_reducible exact ih0 _ _ _)
      | (with_reducible exact spec_WordOk.mono _ _)
      | (with_reducible exact LeO.refl _)
      | (with_reducible exact LeO.none _)
      | (with_reducible refine LeO.ite ?_ ?_)
      | (with_reducible refine LeO.bind ?_ (fun _ => ?_))
      | exact ih0 _ _ _
      | exact spec_WordOk.mono _ _
      | exact LeO.none _
      | refine LeO.ite ?_ ?_
      | refine LeO.bind ?_ (fun _ => ?_)
theorem spec_Upper.mono : ∀ a0 k, LeO (spec_Upper.f k a0) (spec_Upper.f (k + 1) a0) := by
  intro a0 k
  have ih0 := spec_Upper.mono_l k
  unfold spec_Upper.f
  repeat' first
      | (with_reducible exact ih0 _ _ _)
      | (with_reducible exact spec_WordOk.mono _ _)
      | (with_reducible exact LeO.refl _)
      | (with_reducible exact LeO.none _)
      | (with_reducible refine LeO.ite ?_ ?_)
      | (with_reducible refine LeO.bind ?_ (fun _ => ?_))
      | exact ih0 _ _ _
      | exact spec_WordOk.mono _ _
      | exact LeO.none _
      | refine LeO.ite ?_ ?_
      | refine LeO.bind ?_ (fun _ => ?_)
set_option maxHeartbeats 8000000 in
set_option maxRecDepth 100000 in
theorem spec_Upper.calls (k : Nat) (a0 : ByteArray) (r : ByteArray) (w : World) (h : spec_Upper.f k a0 = some r) :
    Calls Tryd.prog 15 #[.string a0] w fun e w' => e = .returned (.string r) ∧ Below w.heap.size w w' := by
  have HB := Aside0.mk (Below.refl w.heap.size w)
  have H : ((spec_WordOk.f k a0).bind fun t179 => (if t179 = true then (spec_Upper.l0 k a0 (⟨#[]⟩ : ByteArray) 0) else (some (⟨#[]⟩ : ByteArray)))) = some r := h
  clear h
  replace H := Option.bind_eq_some_iff.mp H
  obtain ⟨t179, A20, H⟩ := H
  replace H : (if t179 = true then (spec_Upper.l0 k a0 (⟨#[]⟩ : ByteArray) 0) else (some (⟨#[]⟩ : ByteArray))) = some r := H
  have A2 := Aside0.mk A20
  clear A20
  by_cases c3 : t179 = true
  · subst c3
    have H1 : (spec_Upper.l0 k a0 (⟨#[]⟩ : ByteArray) 0) = some r := by rw [if_pos rfl] at H; exact H
    clear H
    have H := H1
    clear H1
    have H' := Aside0.mk H
    clear H
    go_enter Tryd.func15, Tryd.ntmps15
    go_wp2_with (first | ((with_reducible refine gate_callee (f := 8) rfl ?_); refine goesL_ (some 8) rfl rfl Tryd.func8 (by kernel_rfl) rfl #[.string a0] rfl (by (try simp only [List.map_toArray, List.map_cons, List.map_nil]); first | done | rfl | (simp only [List.length_drop, List.length_take]; rfl)) ?_; (with_reducible refine (spec_WordOk.calls k a0 true _ A2.out).mono ?_); rintro e w' ⟨rfl, ⟨nd, rfl⟩⟩; refine ⟨_, rfl, ?_⟩))
    go_loopg [3, 4] k (fun kq v3 v4 w' => ∃ (x3_1 : ByteArray) (x4_1 : Int), v3 = .string x3_1 ∧ v4 = .int .i64 x4_1 ∧ Aside0 (spec_Upper.l0 kq a0 x3_1 x4_1 = some r) ∧ Aside0 (kq ≤ k) ∧ Aside0 (Below w.heap.size w w'))
    case atStart => exact ⟨((⟨#[]⟩ : ByteArray)), (0), (by first | rfl | (simp; done) | (simp [*]; done)), (by first | rfl | (simp; done) | (simp [*]; done)), H', ⟨Nat.le_refl _⟩, ⟨by repeat (first | (with_reducible first | exact HB.out | apply below_alloc | apply pw_below_drewN | apply below_drew1) | exact HB.out)⟩⟩
    case round =>
      clear H'
      try clear c1
      try clear p2
      try clear c3
      obtain ⟨x3_1, x4_1, rfl, rfl, HA, HK1, HB⟩ := hrel
      cases gk with
      | zero => exact absurd HA.out (by simp [spec_Upper.l0])
      | succ k1 =>
        have H := HA.out
        clear HA
        simp only [spec_Upper.l0] at H
        by_cases c4 : x4_1 < (a0.size : Int)
        · rw [if_pos c4] at H
          have c4b0 : decide (x4_1 < (a0.size : Int)) = true := decide_eq_true c4
          clear c4
          replace H := Option.bind_eq_some_iff.mp H
          obtain ⟨⟨t180, t181⟩, A50, H⟩ := H
          replace H : (if t180 ≥ 97 then (if t180 ≤ 122 then ((spec_l19Put.f (wrap64 (t180 - 32))).bind fun t182 => (if x3_1.size + t182.size ≤ 9223372036854775807 then (spec_Upper.l0 k1 a0 (x3_1 ++ t182) (wrap64 (x4_1 + t181))) else (none))) else ((spec_l1In.f t180 224 254).bind fun t183 => (if t183 = true then (if t180 = 247 then ((spec_l1In.f t180 945 969).bind fun t184 => (if t184 = true then (if t180 = 962 then ((spec_l1In.f t180 1072 1103).bind fun t185 => (if t185 = true then ((spec_l19Put.f (wrap64 (t180 - 32))).bind fun t186 => (if x3_1.size + t186.size ≤ 9223372036854775807 then (spec_Upper.l0 k1 a0 (x3_1 ++ t186) (wrap64 (x4_1 + t181))) else (none))) else ((spec_l19Put.f t180).bind fun t187 => (if x3_1.size + t187.size ≤ 9223372036854775807 then (spec_Upper.l0 k1 a0 (x3_1 ++ t187) (wrap64 (x4_1 + t181))) else (none))))) else ((spec_l19Put.f (wrap64 (t180 - 32))).bind fun t188 => (if x3_1.size + t188.size ≤ 9223372036854775807 then (spec_Upper.l0 k1 a0 (x3_1 ++ t188) (wrap64 (x4_1 + t181))) else (none)))) else ((spec_l1In.f t180 1072 1103).bind fun t189 => (if t189 = true then ((spec_l19Put.f (wrap64 (t180 - 32))).bind fun t190 => (if x3_1.size + t190.size ≤ 9223372036854775807 then (spec_Upper.l0 k1 a0 (x3_1 ++ t190) (wrap64 (x4_1 + t181))) else (none))) else ((spec_l19Put.f t180).bind fun t191 => (if x3_1.size + t191.size ≤ 9223372036854775807 then (spec_Upper.l0 k1 a0 (x3_1 ++ t191) (wrap64 (x4_1 + t181))) else (none))))))) else ((spec_l19Put.f (wrap64 (t180 - 32))).bind fun t192 => (if x3_1.size + t192.size ≤ 9223372036854775807 then (spec_Upper.l0 k1 a0 (x3_1 ++ t192) (wrap64 (x4_1 + t181))) else (none)))) else ((spec_l1In.f t180 945 969).bind fun t193 => (if t193 = true then (if t180 = 962 then ((spec_l1In.f t180 1072 1103).bind fun t194 => (if t194 = true then ((spec_l19Put.f (wrap64 (t180 - 32))).bind fun t195 => (if x3_1.size + t195.size ≤ 9223372036854775807 then (spec_Upper.l0 k1 a0 (x3_1 ++ t195) (wrap64 (x4_1 + t181))) else (none))) else ((spec_l19Put.f t180).bind fun t196 => (if x3_1.size + t196.size ≤ 9223372036854775807 then (spec_Upper.l0 k1 a0 (x3_1 ++ t196) (wrap64 (x4_1 + t181))) else (none))))) else ((spec_l19Put.f (wrap64 (t180 - 32))).bind fun t197 => (if x3_1.size + t197.size ≤ 9223372036854775807 then (spec_Upper.l0 k1 a0 (x3_1 ++ t197) (wrap64 (x4_1 + t181))) else (none)))) else ((spec_l1In.f t180 1072 1103).bind fun t198 => (if t198 = true then ((spec_l19Put.f (wrap64 (t180 - 32))).bind fun t199 => (if x3_1.size + t199.size ≤ 9223372036854775807 then (spec_Upper.l0 k1 a0 (x3_1 ++ t199) (wrap64 (x4_1 + t181))) else (none))) else ((spec_l19Put.f t180).bind fun t200 => (if x3_1.size + t200.size ≤ 9223372036854775807 then (spec_Upper.l0 k1 a0 (x3_1 ++ t200) (wrap64 (x4_1 + t181))) else (none)))))))))) else ((spec_l1In.f t180 224 254).bind fun t201 => (if t201 = true then (if t180 = 247 then ((spec_l1In.f t180 945 969).bind fun t202 => (if t202 = true then (if t180 = 962 then ((spec_l1In.f t180 1072 1103).bind fun t203 => (if t203 = true then ((spec_l19Put.f (wrap64 (t180 - 32))).bind fun t204 => (if x3_1.size + t204.size ≤ 9223372036854775807 then (spec_Upper.l0 k1 a0 (x3_1 ++ t204) (wrap64 (x4_1 + t181))) else (none))) else ((spec_l19Put.f t180).bind fun t205 => (if x3_1.size + t205.size ≤ 9223372036854775807 then (spec_Upper.l0 k1 a0 (x3_1 ++ t205) (wrap64 (x4_1 + t181))) else (none))))) else ((spec_l19Put.f (wrap64 (t180 - 32))).bind fun t206 => (if x3_1.size + t206.size ≤ 9223372036854775807 then (spec_Upper.l0 k1 a0 (x3_1 ++ t206) (wrap64 (x4_1 + t181))) else (none)))) else ((spec_l1In.f t180 1072 1103).bind fun t207 => (if t207 = true then ((spec_l19Put.f (wrap64 (t180 - 32))).bind fun t208 => (if x3_1.size + t208.size ≤ 9223372036854775807 then (spec_Upper.l0 k1 a0 (x3_1 ++ t208) (wrap64 (x4_1 + t181))) else (none))) else ((spec_l19Put.f t180).bind fun t209 => (if x3_1.size + t209.size ≤ 9223372036854775807 then (spec_Upper.l0 k1 a0 (x3_1 ++ t209) (wrap64 (x4_1 + t181))) else (none))))))) else ((spec_l19Put.f (wrap64 (t180 - 32))).bind fun t210 => (if x3_1.size + t210.size ≤ 9223372036854775807 then (spec_Upper.l0 k1 a0 (x3_1 ++ t210) (wrap64 (x4_1 + t181))) else (none)))) else ((spec_l1In.f t180 945 969).bind fun t211 => (if t211 = true then (if t180 = 962 then ((spec_l1In.f t180 1072 1103).bind fun t212 => (if t212 = true then ((spec_l19Put.f (wrap64 (t180 - 32))).bind fun t213 => (if x3_1.size + t213.size ≤ 9223372036854775807 then (spec_Upper.l0 k1 a0 (x3_1 ++ t213) (wrap64 (x4_1 + t181))) else (none))) else ((spec_l19Put.f t180).bind fun t214 => (if x3_1.size + t214.size ≤ 9223372036854775807 then (spec_Upper.l0 k1 a0 (x3_1 ++ t214) (wrap64 (x4_1 + t181))) else (none))))) else ((spec_l19Put.f (wrap64 (t180 - 32))).bind fun t215 => (if x3_1.size + t215.size ≤ 9223372036854775807 then (spec_Upper.l0 k1 a0 (x3_1 ++ t215) (wrap64 (x4_1 + t181))) else (none)))) else ((spec_l1In.f t180 1072 1103).bind fun t216 => (if t216 = true then ((spec_l19Put.f (wrap64 (t180 - 32))).bind fun t217 => (if x3_1.size + t217.size ≤ 9223372036854775807 then (spec_Upper.l0 k1 a0 (x3_1 ++ t217) (wrap64 (x4_1 + t181))) else (none))) else ((spec_l19Put.f t180).bind fun t218 => (if x3_1.size + t218.size ≤ 9223372036854775807 then (spec_Upper.l0 k1 a0 (x3_1 ++ t218) (wrap64 (x4_1 + t181))) else (none)))))))))) = some r := H
          have A5 := Aside0.mk A50
          clear A50
          by_cases c6 : t180 ≥ 97
          · rw [if_pos c6] at H
            have c6b0 : decide (97 ≤ t180) = true := decide_eq_true c6
            clear c6
            by_cases c7 : t180 ≤ 122
            · rw [if_pos c7] at H
              have c7b0 : decide (t180 ≤ 122) = true := decide_eq_true c7
              clear c7
              replace H := Option.bind_eq_some_iff.mp H
              obtain ⟨t182, A80, H⟩ := H
              replace H : (if x3_1.size + t182.size ≤ 9223372036854775807 then (spec_Upper.l0 k1 a0 (x3_1 ++ t182) (wrap64 (x4_1 + t181))) else (none)) = some r := H
              have A8 := Aside0.mk A80
              clear A80
              by_cases c9 : x3_1.size + t182.size ≤ 9223372036854775807
              · rw [if_pos c9] at H
                have c9b0 := eq_true c9
                have c9b1 : decide (x3_1.size + t182.size ≤ 9223372036854775807) = true := decide_eq_true c9
                try have c9b2 : (9223372036854775807 < x3_1.size + t182.size) = False := eq_false (Nat.not_lt.2 c9)
                have H' := Aside0.mk H
                clear H
                go_wp2_with (first | ((with_reducible refine gate_callee (f := 21) rfl ?_); refine goesL_ (some 17) rfl rfl Tryd.func21 (by kernel_rfl) rfl #[.string a0, .int .i64 x4_1] rfl (by (try simp only [List.map_toArray, List.map_cons, List.map_nil]); first | done | rfl | (simp only [List.length_drop, List.length_take]; rfl)) ?_; (with_reducible refine (spec_l19Rune.calls a0 x4_1 t180 t181 _ A5.out).mono ?_); rintro e w' ⟨rfl, ⟨nd, rfl⟩⟩; refine ⟨_, rfl, ?_⟩) | ((with_reducible refine gate_callee (f := 34) rfl ?_); refine goesL_ (some 50) rfl rfl Tryd.func34 (by kernel_rfl) rfl #[.int .i64 (wrap64 (t180 - 32))] rfl (by (try simp only [List.map_toArray, List.map_cons, List.map_nil]); first | done | rfl | (simp only [List.length_drop, List.length_take]; rfl)) ?_; (with_reducible refine (spec_l19Put.calls (wrap64 (t180 - 32)) t182 _ A8.out).mono ?_); rintro e w10 ⟨rfl, hb⟩; refine ⟨_, rfl, ?_⟩; have n0_ := Aside0.mk (below_step (by repeat (first | (with_reducible first | exact HB.out | apply below_alloc | apply pw_below_drewN | apply below_drew1) | exact HB.out)) hb); clear HB; have HB := n0_; clear n0_; (try clear hb); (try clear hb2); (try clear hk); (try clear hi)))
                go_roundg k1
                case measure => have := HK1.out; omega
                case rel => exact ⟨(x3_1 ++ t182), (wrap64 (x4_1 + t181)), (by first | rfl | (simp; done) | (simp [*]; done)), (by first | rfl | (simp; done) | (simp [*]; done)), H', ⟨by have := HK1.out; omega⟩, ⟨by repeat (first | (with_reducible first | exact HB.out | apply below_alloc | apply pw_below_drewN | apply below_drew1) | exact HB.out)⟩⟩
              · rw [if_neg c9] at H
                exact absurd H (by simp)
            · rw [if_neg c7] at H
              have c7b0 : decide (t180 ≤ 122) = false := decide_eq_false c7
              clear c7
              replace H := Option.bind_eq_some_iff.mp H
              obtain ⟨t183, A110, H⟩ := H
              replace H : (if t183 = true then (if t180 = 247 then ((spec_l1In.f t180 945 969).bind fun t184 => (if t184 = true then (if t180 = 962 then ((spec_l1In.f t180 1072 1103).bind fun t185 => (if t185 = true then ((spec_l19Put.f (wrap64 (t180 - 32))).bind fun t186 => (if x3_1.size + t186.size ≤ 9223372036854775807 then (spec_Upper.l0 k1 a0 (x3_1 ++ t186) (wrap64 (x4_1 + t181))) else (none))) else ((spec_l19Put.f t180).bind fun t187 => (if x3_1.size + t187.size ≤ 9223372036854775807 then (spec_Upper.l0 k1 a0 (x3_1 ++ t187) (wrap64 (x4_1 + t181))) else (none))))) else ((spec_l19Put.f (wrap64 (t180 - 32))).bind fun t188 => (if x3_1.size + t188.size ≤ 9223372036854775807 then (spec_Upper.l0 k1 a0 (x3_1 ++ t188) (wrap64 (x4_1 + t181))) else (none)))) else ((spec_l1In.f t180 1072 1103).bind fun t189 => (if t189 = true then ((spec_l19Put.f (wrap64 (t180 - 32))).bind fun t190 => (if x3_1.size + t190.size ≤ 9223372036854775807 then (spec_Upper.l0 k1 a0 (x3_1 ++ t190) (wrap64 (x4_1 + t181))) else (none))) else ((spec_l19Put.f t180).bind fun t191 => (if x3_1.size + t191.size ≤ 9223372036854775807 then (spec_Upper.l0 k1 a0 (x3_1 ++ t191) (wrap64 (x4_1 + t181))) else (none))))))) else ((spec_l19Put.f (wrap64 (t180 - 32))).bind fun t192 => (if x3_1.size + t192.size ≤ 9223372036854775807 then (spec_Upper.l0 k1 a0 (x3_1 ++ t192) (wrap64 (x4_1 + t181))) else (none)))) else ((spec_l1In.f t180 945 969).bind fun t193 => (if t193 = true then (if t180 = 962 then ((spec_l1In.f t180 1072 1103).bind fun t194 => (if t194 = true then ((spec_l19Put.f (wrap64 (t180 - 32))).bind fun t195 => (if x3_1.size + t195.size ≤ 9223372036854775807 then (spec_Upper.l0 k1 a0 (x3_1 ++ t195) (wrap64 (x4_1 + t181))) else (none))) else ((spec_l19Put.f t180).bind fun t196 => (if x3_1.size + t196.size ≤ 9223372036854775807 then (spec_Upper.l0 k1 a0 (x3_1 ++ t196) (wrap64 (x4_1 + t181))) else (none))))) else ((spec_l19Put.f (wrap64 (t180 - 32))).bind fun t197 => (if x3_1.size + t197.size ≤ 9223372036854775807 then (spec_Upper.l0 k1 a0 (x3_1 ++ t197) (wrap64 (x4_1 + t181))) else (none)))) else ((spec_l1In.f t180 1072 1103).bind fun t198 => (if t198 = true then ((spec_l19Put.f (wrap64 (t180 - 32))).bind fun t199 => (if x3_1.size + t199.size ≤ 9223372036854775807 then (spec_Upper.l0 k1 a0 (x3_1 ++ t199) (wrap64 (x4_1 + t181))) else (none))) else ((spec_l19Put.f t180).bind fun t200 => (if x3_1.size + t200.size ≤ 9223372036854775807 then (spec_Upper.l0 k1 a0 (x3_1 ++ t200) (wrap64 (x4_1 + t181))) else (none)))))))) = some r := H
              have A11 := Aside0.mk A110
              clear A110
              by_cases c12 : t183 = true
              · subst c12
                have H1 : (if t180 = 247 then ((spec_l1In.f t180 945 969).bind fun t184 => (if t184 = true then (if t180 = 962 then ((spec_l1In.f t180 1072 1103).bind fun t185 => (if t185 = true then ((spec_l19Put.f (wrap64 (t180 - 32))).bind fun t186 => (if x3_1.size + t186.size ≤ 9223372036854775807 then (spec_Upper.l0 k1 a0 (x3_1 ++ t186) (wrap64 (x4_1 + t181))) else (none))) else ((spec_l19Put.f t180).bind fun t187 => (if x3_1.size + t187.size ≤ 9223372036854775807 then (spec_Upper.l0 k1 a0 (x3_1 ++ t187) (wrap64 (x4_1 + t181))) else (none))))) else ((spec_l19Put.f (wrap64 (t180 - 32))).bind fun t188 => (if x3_1.size + t188.size ≤ 9223372036854775807 then (spec_Upper.l0 k1 a0 (x3_1 ++ t188) (wrap64 (x4_1 + t181))) else (none)))) else ((spec_l1In.f t180 1072 1103).bind fun t189 => (if t189 = true then ((spec_l19Put.f (wrap64 (t180 - 32))).bind fun t190 => (if x3_1.size + t190.size ≤ 9223372036854775807 then (spec_Upper.l0 k1 a0 (x3_1 ++ t190) (wrap64 (x4_1 + t181))) else (none))) else ((spec_l19Put.f t180).bind fun t191 => (if x3_1.size + t191.size ≤ 9223372036854775807 then (spec_Upper.l0 k1 a0 (x3_1 ++ t191) (wrap64 (x4_1 + t181))) else (none))))))) else ((spec_l19Put.f (wrap64 (t180 - 32))).bind fun t192 => (if x3_1.size + t192.size ≤ 9223372036854775807 then (spec_Upper.l0 k1 a0 (x3_1 ++ t192) (wrap64 (x4_1 + t181))) else (none)))) = some r := by rw [if_pos rfl] at H; exact H
                clear H
                have H := H1
                clear H1
                by_cases c13 : t180 = 247
                · rw [if_pos c13] at H
                  have c13b0 : (t180 == 247) = true := beq_iff_eq.mpr c13
                  have c13b1 : (t180 != 247) = false := bne_eq_false_iff_eq.mpr c13
                  clear c13
                  replace H := Option.bind_eq_some_iff.mp H
                  obtain ⟨t184, A140, H⟩ := H
                  replace H : (if t184 = true then (if t180 = 962 then ((spec_l1In.f t180 1072 1103).bind fun t185 => (if t185 = true then ((spec_l19Put.f (wrap64 (t180 - 32))).bind fun t186 => (if x3_1.size + t186.size ≤ 9223372036854775807 then (spec_Upper.l0 k1 a0 (x3_1 ++ t186) (wrap64 (x4_1 + t181))) else (none))) else ((spec_l19Put.f t180).bind fun t187 => (if x3_1.size + t187.size ≤ 9223372036854775807 then (spec_Upper.l0 k1 a0 (x3_1 ++ t187) (wrap64 (x4_1 + t181))) else (none))))) else ((spec_l19Put.f (wrap64 (t180 - 32))).bind fun t188 => (if x3_1.size + t188.size ≤ 9223372036854775807 then (spec_Upper.l0 k1 a0 (x3_1 ++ t188) (wrap64 (x4_1 + t181))) else (none)))) else ((spec_l1In.f t180 1072 1103).bind fun t189 => (if t189 = true then ((spec_l19Put.f (wrap64 (t180 - 32))).bind fun t190 => (if x3_1.size + t190.size ≤ 9223372036854775807 then (spec_Upper.l0 k1 a0 (x3_1 ++ t190) (wrap64 (x4_1 + t181))) else (none))) else ((spec_l19Put.f t180).bind fun t191 => (if x3_1.size + t191.size ≤ 9223372036854775807 then (spec_Upper.l0 k1 a0 (x3_1 ++ t191) (wrap64 (x4_1 + t181))) else (none)))))) = some r := H
                  have A14 := Aside0.mk A140
                  clear A140
                  by_cases c15 : t184 = true
                  · subst c15
                    have H1 : (if t180 = 962 then ((spec_l1In.f t180 1072 1103).bind fun t185 => (if t185 = true then ((spec_l19Put.f (wrap64 (t180 - 32))).bind fun t186 => (if x3_1.size + t186.size ≤ 9223372036854775807 then (spec_Upper.l0 k1 a0 (x3_1 ++ t186) (wrap64 (x4_1 + t181))) else (none))) else ((spec_l19Put.f t180).bind fun t187 => (if x3_1.size + t187.size ≤ 9223372036854775807 then (spec_Upper.l0 k1 a0 (x3_1 ++ t187) (wrap64 (x4_1 + t181))) else (none))))) else ((spec_l19Put.f (wrap64 (t180 - 32))).bind fun t188 => (if x3_1.size + t188.size ≤ 9223372036854775807 then (spec_Upper.l0 k1 a0 (x3_1 ++ t188) (wrap64 (x4_1 + t181))) else (none)))) = some r := by rw [if_pos rfl] at H; exact H
                    clear H
                    have H := H1
                    clear H1
                    by_cases c16 : t180 = 962
                    · rw [if_pos c16] at H
                      have c16b0 : (t180 == 962) = true := beq_iff_eq.mpr c16
                      have c16b1 : (t180 != 962) = false := bne_eq_false_iff_eq.mpr c16
                      clear c16
                      replace H := Option.bind_eq_some_iff.mp H
                      obtain ⟨t185, A170, H⟩ := H
                      replace H : (if t185 = true then ((spec_l19Put.f (wrap64 (t180 - 32))).bind fun t186 => (if x3_1.size + t186.size ≤ 9223372036854775807 then (spec_Upper.l0 k1 a0 (x3_1 ++ t186) (wrap64 (x4_1 + t181))) else (none))) else ((spec_l19Put.f t180).bind fun t187 => (if x3_1.size + t187.size ≤ 9223372036854775807 then (spec_Upper.l0 k1 a0 (x3_1 ++ t187) (wrap64 (x4_1 + t181))) else (none)))) = some r := H
                      have A17 := Aside0.mk A170
                      clear A170
                      by_cases c18 : t185 = true
                      · subst c18
                        have H1 : ((spec_l19Put.f (wrap64 (t180 - 32))).bind fun t186 => (if x3_1.size + t186.size ≤ 9223372036854775807 then (spec_Upper.l0 k1 a0 (x3_1 ++ t186) (wrap64 (x4_1 + t181))) else (none))) = some r := by rw [if_pos rfl] at H; exact H
                        clear H
                        have H := H1
                        clear H1
                        replace H := Option.bind_eq_some_iff.mp H
                        obtain ⟨t186, A190, H⟩ := H
                        replace H : (if x3_1.size + t186.size ≤ 9223372036854775807 then (spec_Upper.l0 k1 a0 (x3_1 ++ t186) (wrap64 (x4_1 + t181))) else (none)) = some r := H
                        have A19 := Aside0.mk A190
                        clear A190
                        by_cases c20 : x3_1.size + t186.size ≤ 9223372036854775807
                        · rw [if_pos c20] at H
                          have c20b0 := eq_true c20
                          have c20b1 : decide (x3_1.size + t186.size ≤ 9223372036854775807) = true := decide_eq_true c20
                          try have c20b2 : (9223372036854775807 < x3_1.size + t186.size) = False := eq_false (Nat.not_lt.2 c20)
                          have H' := Aside0.mk H
                          clear H
                          go_wp2_with (first | ((with_reducible refine gate_callee (f := 21) rfl ?_); refine goesL_ (some 17) rfl rfl Tryd.func21 (by kernel_rfl) rfl #[.string a0, .int .i64 x4_1] rfl (by (try simp only [List.map_toArray, List.map_cons, List.map_nil]); first | done | rfl | (simp only [List.length_drop, List.length_take]; rfl)) ?_; (with_reducible refine (spec_l19Rune.calls a0 x4_1 t180 t181 _ A5.out).mono ?_); rintro e w' ⟨rfl, ⟨nd, rfl⟩⟩; refine ⟨_, rfl, ?_⟩) | (go_at_call 23; (with_reducible refine (spec_l1In.calls t180 224 254 true _ A11.out).mono ?_); rintro e w' ⟨rfl, ⟨nd, rfl⟩⟩) | (go_at_call 23; (with_reducible refine (spec_l1In.calls t180 945 969 true _ A14.out).mono ?_); rintro e w' ⟨rfl, ⟨nd, rfl⟩⟩) | (go_at_call 23; (with_reducible refine (spec_l1In.calls t180 1072 1103 true _ A17.out).mono ?_); rintro e w' ⟨rfl, ⟨nd, rfl⟩⟩) | ((with_reducible refine gate_callee (f := 34) rfl ?_); refine goesL_ (some 50) rfl rfl Tryd.func34 (by kernel_rfl) rfl #[.int .i64 (wrap64 (t180 - 32))] rfl (by (try simp only [List.map_toArray, List.map_cons, List.map_nil]); first | done | rfl | (simp only [List.length_drop, List.length_take]; rfl)) ?_; (with_reducible refine (spec_l19Put.calls (wrap64 (t180 - 32)) t186 _ A19.out).mono ?_); rintro e w21 ⟨rfl, hb⟩; refine ⟨_, rfl, ?_⟩; have n0_ := Aside0.mk (below_step (by repeat (first | (with_reducible first | exact HB.out | apply below_alloc | apply pw_below_drewN | apply below_drew1) | exact HB.out)) hb); clear HB; have HB := n0_; clear n0_; (try clear hb); (try clear hb2); (try clear hk); (try clear hi)))
                          go_roundg k1
                          case measure => have := HK1.out; omega
                          case rel => exact ⟨(x3_1 ++ t186), (wrap64 (x4_1 + t181)), (by first | rfl | (simp; done) | (simp [*]; done)), (by first | rfl | (simp; done) | (simp [*]; done)), H', ⟨by have := HK1.out; omega⟩, ⟨by repeat (first | (with_reducible first | exact HB.out | apply below_alloc | apply pw_below_drewN | apply below_drew1) | exact HB.out)⟩⟩
                        · rw [if_neg c20] at H
                          exact absurd H (by simp)
                      · replace c18 := Bool.eq_false_iff.mpr c18
                        subst c18
                        have H1 : ((spec_l19Put.f t180).bind fun t187 => (if x3_1.size + t187.size ≤ 9223372036854775807 then (spec_Upper.l0 k1 a0 (x3_1 ++ t187) (wrap64 (x4_1 + t181))) else (none))) = some r := by rw [if_neg (show ¬ (false = true) by decide)] at H; exact H
                        clear H
                        have H := H1
                        clear H1
                        replace H := Option.bind_eq_some_iff.mp H
                        obtain ⟨t187, A220, H⟩ := H
                        replace H : (if x3_1.size + t187.size ≤ 9223372036854775807 then (spec_Upper.l0 k1 a0 (x3_1 ++ t187) (wrap64 (x4_1 + t181))) else (none)) = some r := H
                        have A22 := Aside0.mk A220
                        clear A220
                        by_cases c23 : x3_1.size + t187.size ≤ 9223372036854775807
                        · rw [if_pos c23] at H
                          have c23b0 := eq_true c23
                          have c23b1 : decide (x3_1.size + t187.size ≤ 9223372036854775807) = true := decide_eq_true c23
                          try have c23b2 : (9223372036854775807 < x3_1.size + t187.size) = False := eq_false (Nat.not_lt.2 c23)
                          have H' := Aside0.mk H
                          clear H
                          go_wp2_with (first | ((with_reducible refine gate_callee (f := 21) rfl ?_); refine goesL_ (some 17) rfl rfl Tryd.func21 (by kernel_rfl) rfl #[.string a0, .int .i64 x4_1] rfl (by (try simp only [List.map_toArray, List.map_cons, List.map_nil]); first | done | rfl | (simp only [List.length_drop, List.length_take]; rfl)) ?_; (with_reducible refine (spec_l19Rune.calls a0 x4_1 t180 t181 _ A5.out).mono ?_); rintro e w' ⟨rfl, ⟨nd, rfl⟩⟩; refine ⟨_, rfl, ?_⟩) | (go_at_call 23; (with_reducible refine (spec_l1In.calls t180 224 254 true _ A11.out).mono ?_); rintro e w' ⟨rfl, ⟨nd, rfl⟩⟩) | (go_at_call 23; (with_reducible refine (spec_l1In.calls t180 945 969 true _ A14.out).mono ?_); rintro e w' ⟨rfl, ⟨nd, rfl⟩⟩) | (go_at_call 23; (with_reducible refine (spec_l1In.calls t180 1072 1103 false _ A17.out).mono ?_); rintro e w' ⟨rfl, ⟨nd, rfl⟩⟩) | ((with_reducible refine gate_callee (f := 34) rfl ?_); refine goesL_ (some 50) rfl rfl Tryd.func34 (by kernel_rfl) rfl #[.int .i64 t180] rfl (by (try simp only [List.map_toArray, List.map_cons, List.map_nil]); first | done | rfl | (simp only [List.length_drop, List.length_take]; rfl)) ?_; (with_reducible refine (spec_l19Put.calls t180 t187 _ A22.out).mono ?_); rintro e w24 ⟨rfl, hb⟩; refine ⟨_, rfl, ?_⟩; have n0_ := Aside0.mk (below_step (by repeat (first | (with_reducible first | exact HB.out | apply below_alloc | apply pw_below_drewN | apply below_drew1) | exact HB.out)) hb); clear HB; have HB := n0_; clear n0_; (try clear hb); (try clear hb2); (try clear hk); (try clear hi)))
                          go_roundg k1
                          case measure => have := HK1.out; omega
                          case rel => exact ⟨(x3_1 ++ t187), (wrap64 (x4_1 + t181)), (by first | rfl | (simp; done) | (simp [*]; done)), (by first | rfl | (simp; done) | (simp [*]; done)), H', ⟨by have := HK1.out; omega⟩, ⟨by repeat (first | (with_reducible first | exact HB.out | apply below_alloc | apply pw_below_drewN | apply below_drew1) | exact HB.out)⟩⟩
                        · rw [if_neg c23] at H
                          exact absurd H (by simp)
                    · rw [if_neg c16] at H
                      have c16b0 : (t180 == 962) = false := beq_eq_false_iff_ne.mpr c16
                      have c16b1 : (t180 != 962) = true := bne_iff_ne.mpr c16
                      replace H := Option.bind_eq_some_iff.mp H
                      obtain ⟨t188, A250, H⟩ := H
                      replace H : (if x3_1.size + t188.size ≤ 9223372036854775807 then (spec_Upper.l0 k1 a0 (x3_1 ++ t188) (wrap64 (x4_1 + t181))) else (none)) = some r := H
                      have A25 := Aside0.mk A250
                      clear A250
                      by_cases c26 : x3_1.size + t188.size ≤ 9223372036854775807
                      · rw [if_pos c26] at H
                        have c26b0 := eq_true c26
                        have c26b1 : decide (x3_1.size + t188.size ≤ 9223372036854775807) = true := decide_eq_true c26
                        try have c26b2 : (9223372036854775807 < x3_1.size + t188.size) = False := eq_false (Nat.not_lt.2 c26)
                        have H' := Aside0.mk H
                        clear H
                        go_wp2_with (first | ((with_reducible refine gate_callee (f := 21) rfl ?_); refine goesL_ (some 17) rfl rfl Tryd.func21 (by kernel_rfl) rfl #[.string a0, .int .i64 x4_1] rfl (by (try simp only [List.map_toArray, List.map_cons, List.map_nil]); first | done | rfl | (simp only [List.length_drop, List.length_take]; rfl)) ?_; (with_reducible refine (spec_l19Rune.calls a0 x4_1 t180 t181 _ A5.out).mono ?_); rintro e w' ⟨rfl, ⟨nd, rfl⟩⟩; refine ⟨_, rfl, ?_⟩) | (go_at_call 23; (with_reducible refine (spec_l1In.calls t180 224 254 true _ A11.out).mono ?_); rintro e w' ⟨rfl, ⟨nd, rfl⟩⟩) | (go_at_call 23; (with_reducible refine (spec_l1In.calls t180 945 969 true _ A14.out).mono ?_); rintro e w' ⟨rfl, ⟨nd, rfl⟩⟩) | ((with_reducible refine gate_callee (f := 34) rfl ?_); refine goesL_ (some 50) rfl rfl Tryd.func34 (by kernel_rfl) rfl #[.int .i64 (wrap64 (t180 - 32))] rfl (by (try simp only [List.map_toArray, List.map_cons, List.map_nil]); first | done | rfl | (simp only [List.length_drop, List.length_take]; rfl)) ?_; (with_reducible refine (spec_l19Put.calls (wrap64 (t180 - 32)) t188 _ A25.out).mono ?_); rintro e w27 ⟨rfl, hb⟩; refine ⟨_, rfl, ?_⟩; have n0_ := Aside0.mk (below_step (by repeat (first | (with_reducible first | exact HB.out | apply below_alloc | apply pw_below_drewN | apply below_drew1) | exact HB.out)) hb); clear HB; have HB := n0_; clear n0_; (try clear hb); (try clear hb2); (try clear hk); (try clear hi)))
                        go_roundg k1
                        case measure => have := HK1.out; omega
                        case rel => exact ⟨(x3_1 ++ t188), (wrap64 (x4_1 + t181)), (by first | rfl | (simp; done) | (simp [*]; done)), (by first | rfl | (simp; done) | (simp [*]; done)), H', ⟨by have := HK1.out; omega⟩, ⟨by repeat (first | (with_reducible first | exact HB.out | apply below_alloc | apply pw_below_drewN | apply below_drew1) | exact HB.out)⟩⟩
                      · rw [if_neg c26] at H
                        exact absurd H (by simp)
                  · replace c15 := Bool.eq_false_iff.mpr c15
                    subst c15
                    have H1 : ((spec_l1In.f t180 1072 1103).bind fun t189 => (if t189 = true then ((spec_l19Put.f (wrap64 (t180 - 32))).bind fun t190 => (if x3_1.size + t190.size ≤ 9223372036854775807 then (spec_Upper.l0 k1 a0 (x3_1 ++ t190) (wrap64 (x4_1 + t181))) else (none))) else ((spec_l19Put.f t180).bind fun t191 => (if x3_1.size + t191.size ≤ 9223372036854775807 then (spec_Upper.l0 k1 a0 (x3_1 ++ t191) (wrap64 (x4_1 + t181))) else (none))))) = some r := by rw [if_neg (show ¬ (false = true) by decide)] at H; exact H
                    clear H
                    have H := H1
                    clear H1
                    replace H := Option.bind_eq_some_iff.mp H
                    obtain ⟨t189, A280, H⟩ := H
                    replace H : (if t189 = true then ((spec_l19Put.f (wrap64 (t180 - 32))).bind fun t190 => (if x3_1.size + t190.size ≤ 9223372036854775807 then (spec_Upper.l0 k1 a0 (x3_1 ++ t190) (wrap64 (x4_1 + t181))) else (none))) else ((spec_l19Put.f t180).bind fun t191 => (if x3_1.size + t191.size ≤ 9223372036854775807 then (spec_Upper.l0 k1 a0 (x3_1 ++ t191) (wrap64 (x4_1 + t181))) else (none)))) = some r := H
                    have A28 := Aside0.mk A280
                    clear A280
                    by_cases c29 : t189 = true
                    · subst c29
                      have H1 : ((spec_l19Put.f (wrap64 (t180 - 32))).bind fun t190 => (if x3_1.size + t190.size ≤ 9223372036854775807 then (spec_Upper.l0 k1 a0 (x3_1 ++ t190) (wrap64 (x4_1 + t181))) else (none))) = some r := by rw [if_pos rfl] at H; exact H
                      clear H
                      have H := H1
                      clear H1
                      replace H := Option.bind_eq_some_iff.mp H
                      obtain ⟨t190, A300, H⟩ := H
                      replace H : (if x3_1.size + t190.size ≤ 9223372036854775807 then (spec_Upper.l0 k1 a0 (x3_1 ++ t190) (wrap64 (x4_1 + t181))) else (none)) = some r := H
                      have A30 := Aside0.mk A300
                      clear A300
                      by_cases c31 : x3_1.size + t190.size ≤ 9223372036854775807
                      · rw [if_pos c31] at H
                        have c31b0 := eq_true c31
                        have c31b1 : decide (x3_1.size + t190.size ≤ 9223372036854775807) = true := decide_eq_true c31
                        try have c31b2 : (9223372036854775807 < x3_1.size + t190.size) = False := eq_false (Nat.not_lt.2 c31)
                        have H' := Aside0.mk H
                        clear H
                        go_wp2_with (first | ((with_reducible refine gate_callee (f := 21) rfl ?_); refine goesL_ (some 17) rfl rfl Tryd.func21 (by kernel_rfl) rfl #[.string a0, .int .i64 x4_1] rfl (by (try simp only [List.map_toArray, List.map_cons, List.map_nil]); first | done | rfl | (simp only [List.length_drop, List.length_take]; rfl)) ?_; (with_reducible refine (spec_l19Rune.calls a0 x4_1 t180 t181 _ A5.out).mono ?_); rintro e w' ⟨rfl, ⟨nd, rfl⟩⟩; refine ⟨_, rfl, ?_⟩) | (go_at_call 23; (with_reducible refine (spec_l1In.calls t180 224 254 true _ A11.out).mono ?_); rintro e w' ⟨rfl, ⟨nd, rfl⟩⟩) | (go_at_call 23; (with_reducible refine (spec_l1In.calls t180 945 969 false _ A14.out).mono ?_); rintro e w' ⟨rfl, ⟨nd, rfl⟩⟩) | (go_at_call 23; (with_reducible refine (spec_l1In.calls t180 1072 1103 true _ A28.out).mono ?_); rintro e w' ⟨rfl, ⟨nd, rfl⟩⟩) | ((with_reducible refine gate_callee (f := 34) rfl ?_); refine goesL_ (some 50) rfl rfl Tryd.func34 (by kernel_rfl) rfl #[.int .i64 (wrap64 (t180 - 32))] rfl (by (try simp only [List.map_toArray, List.map_cons, List.map_nil]); first | done | rfl | (simp only [List.length_drop, List.length_take]; rfl)) ?_; (with_reducible refine (spec_l19Put.calls (wrap64 (t180 - 32)) t190 _ A30.out).mono ?_); rintro e w32 ⟨rfl, hb⟩; refine ⟨_, rfl, ?_⟩; have n0_ := Aside0.mk (below_step (by repeat (first | (with_reducible first | exact HB.out | apply below_alloc | apply pw_below_drewN | apply below_drew1) | exact HB.out)) hb); clear HB; have HB := n0_; clear n0_; (try clear hb); (try clear hb2); (try clear hk); (try clear hi)))
                        go_roundg k1
                        case measure => have := HK1.out; omega
                        case rel => exact ⟨(x3_1 ++ t190), (wrap64 (x4_1 + t181)), (by first | rfl | (simp; done) | (simp [*]; done)), (by first | rfl | (simp; done) | (simp [*]; done)), H', ⟨by have := HK1.out; omega⟩, ⟨by repeat (first | (with_reducible first | exact HB.out | apply below_alloc | apply pw_below_drewN | apply below_drew1) | exact HB.out)⟩⟩
                      · rw [if_neg c31] at H
                        exact absurd H (by simp)
                    · replace c29 := Bool.eq_false_iff.mpr c29
                      subst c29
                      have H1 : ((spec_l19Put.f t180).bind fun t191 => (if x3_1.size + t191.size ≤ 9223372036854775807 then (spec_Upper.l0 k1 a0 (x3_1 ++ t191) (wrap64 (x4_1 + t181))) else (none))) = some r := by rw [if_neg (show ¬ (false = true) by decide)] at H; exact H
                      clear H
                      have H := H1
                      clear H1
                      replace H := Option.bind_eq_some_iff.mp H
                      obtain ⟨t191, A330, H⟩ := H
                      replace H : (if x3_1.size + t191.size ≤ 9223372036854775807 then (spec_Upper.l0 k1 a0 (x3_1 ++ t191) (wrap64 (x4_1 + t181))) else (none)) = some r := H
                      have A33 := Aside0.mk A330
                      clear A330
                      by_cases c34 : x3_1.size + t191.size ≤ 9223372036854775807
                      · rw [if_pos c34] at H
                        have c34b0 := eq_true c34
                        have c34b1 : decide (x3_1.size + t191.size ≤ 9223372036854775807) = true := decide_eq_true c34
                        try have c34b2 : (9223372036854775807 < x3_1.size + t191.size) = False := eq_false (Nat.not_lt.2 c34)
                        have H' := Aside0.mk H
                        clear H
                        go_wp2_with (first | ((with_reducible refine gate_callee (f := 21) rfl ?_); refine goesL_ (some 17) rfl rfl Tryd.func21 (by kernel_rfl) rfl #[.string a0, .int .i64 x4_1] rfl (by (try simp only [List.map_toArray, List.map_cons, List.map_nil]); first | done | rfl | (simp only [List.length_drop, List.length_take]; rfl)) ?_; (with_reducible refine (spec_l19Rune.calls a0 x4_1 t180 t181 _ A5.out).mono ?_); rintro e w' ⟨rfl, ⟨nd, rfl⟩⟩; refine ⟨_, rfl, ?_⟩) | (go_at_call 23; (with_reducible refine (spec_l1In.calls t180 224 254 true _ A11.out).mono ?_); rintro e w' ⟨rfl, ⟨nd, rfl⟩⟩) | (go_at_call 23; (with_reducible refine (spec_l1In.calls t180 945 969 false _ A14.out).mono ?_); rintro e w' ⟨rfl, ⟨nd, rfl⟩⟩) | (go_at_call 23; (with_reducible refine (spec_l1In.calls t180 1072 1103 false _ A28.out).mono ?_); rintro e w' ⟨rfl, ⟨nd, rfl⟩⟩) | ((with_reducible refine gate_callee (f := 34) rfl ?_); refine goesL_ (some 50) rfl rfl Tryd.func34 (by kernel_rfl) rfl #[.int .i64 t180] rfl (by (try simp only [List.map_toArray, List.map_cons, List.map_nil]); first | done | rfl | (simp only [List.length_drop, List.length_take]; rfl)) ?_; (with_reducible refine (spec_l19Put.calls t180 t191 _ A33.out).mono ?_); rintro e w35 ⟨rfl, hb⟩; refine ⟨_, rfl, ?_⟩; have n0_ := Aside0.mk (below_step (by repeat (first | (with_reducible first | exact HB.out | apply below_alloc | apply pw_below_drewN | apply below_drew1) | exact HB.out)) hb); clear HB; have HB := n0_; clear n0_; (try clear hb); (try clear hb2); (try clear hk); (try clear hi)))
                        go_roundg k1
                        case measure => have := HK1.out; omega
                        case rel => exact ⟨(x3_1 ++ t191), (wrap64 (x4_1 + t181)), (by first | rfl | (simp; done) | (simp [*]; done)), (by first | rfl | (simp; done) | (simp [*]; done)), H', ⟨by have := HK1.out; omega⟩, ⟨by repeat (first | (with_reducible first | exact HB.out | apply below_alloc | apply pw_below_drewN | apply below_drew1) | exact HB.out)⟩⟩
                      · rw [if_neg c34] at H
                        exact absurd H (by simp)
                · rw [if_neg c13] at H
                  have c13b0 : (t180 == 247) = false := beq_eq_false_iff_ne.mpr c13
                  have c13b1 : (t180 != 247) = true := bne_iff_ne.mpr c13
                  replace H := Option.bind_eq_some_iff.mp H
                  obtain ⟨t192, A360, H⟩ := H
                  replace H : (if x3_1.size + t192.size ≤ 9223372036854775807 then (spec_Upper.l0 k1 a0 (x3_1 ++ t192) (wrap64 (x4_1 + t181))) else (none)) = some r := H
                  have A36 := Aside0.mk A360
                  clear A360
                  by_cases c37 : x3_1.size + t192.size ≤ 9223372036854775807
                  · rw [if_pos c37] at H
                    have c37b0 := eq_true c37
                    have c37b1 : decide (x3_1.size + t192.size ≤ 9223372036854775807) = true := decide_eq_true c37
                    try have c37b2 : (9223372036854775807 < x3_1.size + t192.size) = False := eq_false (Nat.not_lt.2 c37)
                    have H' := Aside0.mk H
                    clear H
                    go_wp2_with (first | ((with_reducible refine gate_callee (f := 21) rfl ?_); refine goesL_ (some 17) rfl rfl Tryd.func21 (by kernel_rfl) rfl #[.string a0, .int .i64 x4_1] rfl (by (try simp only [List.map_toArray, List.map_cons, List.map_nil]); first | done | rfl | (simp only [List.length_drop, List.length_take]; rfl)) ?_; (with_reducible refine (spec_l19Rune.calls a0 x4_1 t180 t181 _ A5.out).mono ?_); rintro e w' ⟨rfl, ⟨nd, rfl⟩⟩; refine ⟨_, rfl, ?_⟩) | (go_at_call 23; (with_reducible refine (spec_l1In.calls t180 224 254 true _ A11.out).mono ?_); rintro e w' ⟨rfl, ⟨nd, rfl⟩⟩) | ((with_reducible refine gate_callee (f := 34) rfl ?_); refine goesL_ (some 50) rfl rfl Tryd.func34 (by kernel_rfl) rfl #[.int .i64 (wrap64 (t180 - 32))] rfl (by (try simp only [List.map_toArray, List.map_cons, List.map_nil]); first | done | rfl | (simp only [List.length_drop, List.length_take]; rfl)) ?_; (with_reducible refine (spec_l19Put.calls (wrap64 (t180 - 32)) t192 _ A36.out).mono ?_); rintro e w38 ⟨rfl, hb⟩; refine ⟨_, rfl, ?_⟩; have n0_ := Aside0.mk (below_step (by repeat (first | (with_reducible first | exact HB.out | apply below_alloc | apply pw_below_drewN | apply below_drew1) | exact HB.out)) hb); clear HB; have HB := n0_; clear n0_; (try clear hb); (try clear hb2); (try clear hk); (try clear hi)))
                    go_roundg k1
                    case measure => have := HK1.out; omega
                    case rel => exact ⟨(x3_1 ++ t192), (wrap64 (x4_1 + t181)), (by first | rfl | (simp; done) | (simp [*]; done)), (by first | rfl | (simp; done) | (simp [*]; done)), H', ⟨by have := HK1.out; omega⟩, ⟨by repeat (first | (with_reducible first | exact HB.out | apply below_alloc | apply pw_below_drewN | apply below_drew1) | exact HB.out)⟩⟩
                  · rw [if_neg c37] at H
                    exact absurd H (by simp)
              · replace c12 := Bool.eq_false_iff.mpr c12
                subst c12
                have H1 : ((spec_l1In.f t180 945 969).bind fun t193 => (if t193 = true then (if t180 = 962 then ((spec_l1In.f t180 1072 1103).bind fun t194 => (if t194 = true then ((spec_l19Put.f (wrap64 (t180 - 32))).bind fun t195 => (if x3_1.size + t195.size ≤ 9223372036854775807 then (spec_Upper.l0 k1 a0 (x3_1 ++ t195) (wrap64 (x4_1 + t181))) else (none))) else ((spec_l19Put.f t180).bind fun t196 => (if x3_1.size + t196.size ≤ 9223372036854775807 then (spec_Upper.l0 k1 a0 (x3_1 ++ t196) (wrap64 (x4_1 + t181))) else (none))))) else ((spec_l19Put.f (wrap64 (t180 - 32))).bind fun t197 => (if x3_1.size + t197.size ≤ 9223372036854775807 then (spec_Upper.l0 k1 a0 (x3_1 ++ t197) (wrap64 (x4_1 + t181))) else (none)))) else ((spec_l1In.f t180 1072 1103).bind fun t198 => (if t198 = true then ((spec_l19Put.f (wrap64 (t180 - 32))).bind fun t199 => (if x3_1.size + t199.size ≤ 9223372036854775807 then (spec_Upper.l0 k1 a0 (x3_1 ++ t199) (wrap64 (x4_1 + t181))) else (none))) else ((spec_l19Put.f t180).bind fun t200 => (if x3_1.size + t200.size ≤ 9223372036854775807 then (spec_Upper.l0 k1 a0 (x3_1 ++ t200) (wrap64 (x4_1 + t181))) else (none))))))) = some r := by rw [if_neg (show ¬ (false = true) by decide)] at H; exact H
                clear H
                have H := H1
                clear H1
                replace H := Option.bind_eq_some_iff.mp H
                obtain ⟨t193, A390, H⟩ := H
                replace H : (if t193 = true then (if t180 = 962 then ((spec_l1In.f t180 1072 1103).bind fun t194 => (if t194 = true then ((spec_l19Put.f (wrap64 (t180 - 32))).bind fun t195 => (if x3_1.size + t195.size ≤ 9223372036854775807 then (spec_Upper.l0 k1 a0 (x3_1 ++ t195) (wrap64 (x4_1 + t181))) else (none))) else ((spec_l19Put.f t180).bind fun t196 => (if x3_1.size + t196.size ≤ 9223372036854775807 then (spec_Upper.l0 k1 a0 (x3_1 ++ t196) (wrap64 (x4_1 + t181))) else (none))))) else ((spec_l19Put.f (wrap64 (t180 - 32))).bind fun t197 => (if x3_1.size + t197.size ≤ 9223372036854775807 then (spec_Upper.l0 k1 a0 (x3_1 ++ t197) (wrap64 (x4_1 + t181))) else (none)))) else ((spec_l1In.f t180 1072 1103).bind fun t198 => (if t198 = true then ((spec_l19Put.f (wrap64 (t180 - 32))).bind fun t199 => (if x3_1.size + t199.size ≤ 9223372036854775807 then (spec_Upper.l0 k1 a0 (x3_1 ++ t199) (wrap64 (x4_1 + t181))) else (none))) else ((spec_l19Put.f t180).bind fun t200 => (if x3_1.size + t200.size ≤ 9223372036854775807 then (spec_Upper.l0 k1 a0 (x3_1 ++ t200) (wrap64 (x4_1 + t181))) else (none)))))) = some r := H
                have A39 := Aside0.mk A390
                clear A390
                by_cases c40 : t193 = true
                · subst c40
                  have H1 : (if t180 = 962 then ((spec_l1In.f t180 1072 1103).bind fun t194 => (if t194 = true then ((spec_l19Put.f (wrap64 (t180 - 32))).bind fun t195 => (if x3_1.size + t195.size ≤ 9223372036854775807 then (spec_Upper.l0 k1 a0 (x3_1 ++ t195) (wrap64 (x4_1 + t181))) else (none))) else ((spec_l19Put.f t180).bind fun t196 => (if x3_1.size + t196.size ≤ 9223372036854775807 then (spec_Upper.l0 k1 a0 (x3_1 ++ t196) (wrap64 (x4_1 + t181))) else (none))))) else ((spec_l19Put.f (wrap64 (t180 - 32))).bind fun t197 => (if x3_1.size + t197.size ≤ 9223372036854775807 then (spec_Upper.l0 k1 a0 (x3_1 ++ t197) (wrap64 (x4_1 + t181))) else (none)))) = some r := by rw [if_pos rfl] at H; exact H
                  clear H
                  have H := H1
                  clear H1
                  by_cases c41 : t180 = 962
                  · rw [if_pos c41] at H
                    have c41b0 : (t180 == 962) = true := beq_iff_eq.mpr c41
                    have c41b1 : (t180 != 962) = false := bne_eq_false_iff_eq.mpr c41
                    clear c41
                    replace H := Option.bind_eq_some_iff.mp H
                    obtain ⟨t194, A420, H⟩ := H
                    replace H : (if t194 = true then ((spec_l19Put.f (wrap64 (t180 - 32))).bind fun t195 => (if x3_1.size + t195.size ≤ 9223372036854775807 then (spec_Upper.l0 k1 a0 (x3_1 ++ t195) (wrap64 (x4_1 + t181))) else (none))) else ((spec_l19Put.f t180).bind fun t196 => (if x3_1.size + t196.size ≤ 9223372036854775807 then (spec_Upper.l0 k1 a0 (x3_1 ++ t196) (wrap64 (x4_1 + t181))) else (none)))) = some r := H
                    have A42 := Aside0.mk A420
                    clear A420
                    by_cases c43 : t194 = true
                    · subst c43
                      have H1 : ((spec_l19Put.f (wrap64 (t180 - 32))).bind fun t195 => (if x3_1.size + t195.size ≤ 9223372036854775807 then (spec_Upper.l0 k1 a0 (x3_1 ++ t195) (wrap64 (x4_1 + t181))) else (none))) = some r := by rw [if_pos rfl] at H; exact H
                      clear H
                      have H := H1
                      clear H1
                      replace H := Option.bind_eq_some_iff.mp H
                      obtain ⟨t195, A440, H⟩ := H
                      replace H : (if x3_1.size + t195.size ≤ 9223372036854775807 then (spec_Upper.l0 k1 a0 (x3_1 ++ t195) (wrap64 (x4_1 + t181))) else (none)) = some r := H
                      have A44 := Aside0.mk A440
                      clear A440
                      by_cases c45 : x3_1.size + t195.size ≤ 9223372036854775807
                      · rw [if_pos c45] at H
                        have c45b0 := eq_true c45
                        have c45b1 : decide (x3_1.size + t195.size ≤ 9223372036854775807) = true := decide_eq_true c45
                        try have c45b2 : (9223372036854775807 < x3_1.size + t195.size) = False := eq_false (Nat.not_lt.2 c45)
                        have H' := Aside0.mk H
                        clear H
                        go_wp2_with (first | ((with_reducible refine gate_callee (f := 21) rfl ?_); refine goesL_ (some 17) rfl rfl Tryd.func21 (by kernel_rfl) rfl #[.string a0, .int .i64 x4_1] rfl (by (try simp only [List.map_toArray, List.map_cons, List.map_nil]); first | done | rfl | (simp only [List.length_drop, List.length_take]; rfl)) ?_; (with_reducible refine (spec_l19Rune.calls a0 x4_1 t180 t181 _ A5.out).mono ?_); rintro e w' ⟨rfl, ⟨nd, rfl⟩⟩; refine ⟨_, rfl, ?_⟩) | (go_at_call 23; (with_reducible refine (spec_l1In.calls t180 224 254 false _ A11.out).mono ?_); rintro e w' ⟨rfl, ⟨nd, rfl⟩⟩) | (go_at_call 23; (with_reducible refine (spec_l1In.calls t180 945 969 true _ A39.out).mono ?_); rintro e w' ⟨rfl, ⟨nd, rfl⟩⟩) | (go_at_call 23; (with_reducible refine (spec_l1In.calls t180 1072 1103 true _ A42.out).mono ?_); rintro e w' ⟨rfl, ⟨nd, rfl⟩⟩) | ((with_reducible refine gate_callee (f := 34) rfl ?_); refine goesL_ (some 50) rfl rfl Tryd.func34 (by kernel_rfl) rfl #[.int .i64 (wrap64 (t180 - 32))] rfl (by (try simp only [List.map_toArray, List.map_cons, List.map_nil]); first | done | rfl | (simp only [List.length_drop, List.length_take]; rfl)) ?_; (with_reducible refine (spec_l19Put.calls (wrap64 (t180 - 32)) t195 _ A44.out).mono ?_); rintro e w46 ⟨rfl, hb⟩; refine ⟨_, rfl, ?_⟩; have n0_ := Aside0.mk (below_step (by repeat (first | (with_reducible first | exact HB.out | apply below_alloc | apply pw_below_drewN | apply below_drew1) | exact HB.out)) hb); clear HB; have HB := n0_; clear n0_; (try clear hb); (try clear hb2); (try clear hk); (try clear hi)))
                        go_roundg k1
                        case measure => have := HK1.out; omega
                        case rel => exact ⟨(x3_1 ++ t195), (wrap64 (x4_1 + t181)), (by first | rfl | (simp; done) | (simp [*]; done)), (by first | rfl | (simp; done) | (simp [*]; done)), H', ⟨by have := HK1.out; omega⟩, ⟨by repeat (first | (with_reducible first | exact HB.out | apply below_alloc | apply pw_below_drewN | apply below_drew1) | exact HB.out)⟩⟩
                      · rw [if_neg c45] at H
                        exact absurd H (by simp)
                    · replace c43 := Bool.eq_false_iff.mpr c43
                      subst c43
                      have H1 : ((spec_l19Put.f t180).bind fun t196 => (if x3_1.size + t196.size ≤ 9223372036854775807 then (spec_Upper.l0 k1 a0 (x3_1 ++ t196) (wrap64 (x4_1 + t181))) else (none))) = some r := by rw [if_neg (show ¬ (false = true) by decide)] at H; exact H
                      clear H
                      have H := H1
                      clear H1
                      replace H := Option.bind_eq_some_iff.mp H
                      obtain ⟨t196, A470, H⟩ := H
                      replace H : (if x3_1.size + t196.size ≤ 9223372036854775807 then (spec_Upper.l0 k1 a0 (x3_1 ++ t196) (wrap64 (x4_1 + t181))) else (none)) = some r := H
                      have A47 := Aside0.mk A470
                      clear A470
                      by_cases c48 : x3_1.size + t196.size ≤ 9223372036854775807
                      · rw [if_pos c48] at H
                        have c48b0 := eq_true c48
                        have c48b1 : decide (x3_1.size + t196.size ≤ 9223372036854775807) = true := decide_eq_true c48
                        try have c48b2 : (9223372036854775807 < x3_1.size + t196.size) = False := eq_false (Nat.not_lt.2 c48)
                        have H' := Aside0.mk H
                        clear H
                        go_wp2_with (first | ((with_reducible refine gate_callee (f := 21) rfl ?_); refine goesL_ (some 17) rfl rfl Tryd.func21 (by kernel_rfl) rfl #[.string a0, .int .i64 x4_1] rfl (by (try simp only [List.map_toArray, List.map_cons, List.map_nil]); first | done | rfl | (simp only [List.length_drop, List.length_take]; rfl)) ?_; (with_reducible refine (spec_l19Rune.calls a0 x4_1 t180 t181 _ A5.out).mono ?_); rintro e w' ⟨rfl, ⟨nd, rfl⟩⟩; refine ⟨_, rfl, ?_⟩) | (go_at_call 23; (with_reducible refine (spec_l1In.calls t180 224 254 false _ A11.out).mono ?_); rintro e w' ⟨rfl, ⟨nd, rfl⟩⟩) | (go_at_call 23; (with_reducible refine (spec_l1In.calls t180 945 969 true _ A39.out).mono ?_); rintro e w' ⟨rfl, ⟨nd, rfl⟩⟩) | (go_at_call 23; (with_reducible refine (spec_l1In.calls t180 1072 1103 false _ A42.out).mono ?_); rintro e w' ⟨rfl, ⟨nd, rfl⟩⟩) | ((with_reducible refine gate_callee (f := 34) rfl ?_); refine goesL_ (some 50) rfl rfl Tryd.func34 (by kernel_rfl) rfl #[.int .i64 t180] rfl (by (try simp only [List.map_toArray, List.map_cons, List.map_nil]); first | done | rfl | (simp only [List.length_drop, List.length_take]; rfl)) ?_; (with_reducible refine (spec_l19Put.calls t180 t196 _ A47.out).mono ?_); rintro e w49 ⟨rfl, hb⟩; refine ⟨_, rfl, ?_⟩; have n0_ := Aside0.mk (below_step (by repeat (first | (with_reducible first | exact HB.out | apply below_alloc | apply pw_below_drewN | apply below_drew1) | exact HB.out)) hb); clear HB; have HB := n0_; clear n0_; (try clear hb); (try clear hb2); (try clear hk); (try clear hi)))
                        go_roundg k1
                        case measure => have := HK1.out; omega
                        case rel => exact ⟨(x3_1 ++ t196), (wrap64 (x4_1 + t181)), (by first | rfl | (simp; done) | (simp [*]; done)), (by first | rfl | (simp; done) | (simp [*]; done)), H', ⟨by have := HK1.out; omega⟩, ⟨by repeat (first | (with_reducible first | exact HB.out | apply below_alloc | apply pw_below_drewN | apply below_drew1) | exact HB.out)⟩⟩
                      · rw [if_neg c48] at H
                        exact absurd H (by simp)
                  · rw [if_neg c41] at H
                    have c41b0 : (t180 == 962) = false := beq_eq_false_iff_ne.mpr c41
                    have c41b1 : (t180 != 962) = true := bne_iff_ne.mpr c41
                    replace H := Option.bind_eq_some_iff.mp H
                    obtain ⟨t197, A500, H⟩ := H
                    replace H : (if x3_1.size + t197.size ≤ 9223372036854775807 then (spec_Upper.l0 k1 a0 (x3_1 ++ t197) (wrap64 (x4_1 + t181))) else (none)) = some r := H
                    have A50 := Aside0.mk A500
                    clear A500
                    by_cases c51 : x3_1.size + t197.size ≤ 9223372036854775807
                    · rw [if_pos c51] at H
                      have c51b0 := eq_true c51
                      have c51b1 : decide (x3_1.size + t197.size ≤ 9223372036854775807) = true := decide_eq_true c51
                      try have c51b2 : (9223372036854775807 < x3_1.size + t197.size) = False := eq_false (Nat.not_lt.2 c51)
                      have H' := Aside0.mk H
                      clear H
                      go_wp2_with (first | ((with_reducible refine gate_callee (f := 21) rfl ?_); refine goesL_ (some 17) rfl rfl Tryd.func21 (by kernel_rfl) rfl #[.string a0, .int .i64 x4_1] rfl (by (try simp only [List.map_toArray, List.map_cons, List.map_nil]); first | done | rfl | (simp only [List.length_drop, List.length_take]; rfl)) ?_; (with_reducible refine (spec_l19Rune.calls a0 x4_1 t180 t181 _ A5.out).mono ?_); rintro e w' ⟨rfl, ⟨nd, rfl⟩⟩; refine ⟨_, rfl, ?_⟩) | (go_at_call 23; (with_reducible refine (spec_l1In.calls t180 224 254 false _ A11.out).mono ?_); rintro e w' ⟨rfl, ⟨nd, rfl⟩⟩) | (go_at_call 23; (with_reducible refine (spec_l1In.calls t180 945 969 true _ A39.out).mono ?_); rintro e w' ⟨rfl, ⟨nd, rfl⟩⟩) | ((with_reducible refine gate_callee (f := 34) rfl ?_); refine goesL_ (some 50) rfl rfl Tryd.func34 (by kernel_rfl) rfl #[.int .i64 (wrap64 (t180 - 32))] rfl (by (try simp only [List.map_toArray, List.map_cons, List.map_nil]); first | done | rfl | (simp only [List.length_drop, List.length_take]; rfl)) ?_; (with_reducible refine (spec_l19Put.calls (wrap64 (t180 - 32)) t197 _ A50.out).mono ?_); rintro e w52 ⟨rfl, hb⟩; refine ⟨_, rfl, ?_⟩; have n0_ := Aside0.mk (below_step (by repeat (first | (with_reducible first | exact HB.out | apply below_alloc | apply pw_below_drewN | apply below_drew1) | exact HB.out)) hb); clear HB; have HB := n0_; clear n0_; (try clear hb); (try clear hb2); (try clear hk); (try clear hi)))
                      go_roundg k1
                      case measure => have := HK1.out; omega
                      case rel => exact ⟨(x3_1 ++ t197), (wrap64 (x4_1 + t181)), (by first | rfl | (simp; done) | (simp [*]; done)), (by first | rfl | (simp; done) | (simp [*]; done)), H', ⟨by have := HK1.out; omega⟩, ⟨by repeat (first | (with_reducible first | exact HB.out | apply below_alloc | apply pw_below_drewN | apply below_drew1) | exact HB.out)⟩⟩
                    · rw [if_neg c51] at H
                      exact absurd H (by simp)
                · replace c40 := Bool.eq_false_iff.mpr c40
                  subst c40
                  have H1 : ((spec_l1In.f t180 1072 1103).bind fun t198 => (if t198 = true then ((spec_l19Put.f (wrap64 (t180 - 32))).bind fun t199 => (if x3_1.size + t199.size ≤ 9223372036854775807 then (spec_Upper.l0 k1 a0 (x3_1 ++ t199) (wrap64 (x4_1 + t181))) else (none))) else ((spec_l19Put.f t180).bind fun t200 => (if x3_1.size + t200.size ≤ 9223372036854775807 then (spec_Upper.l0 k1 a0 (x3_1 ++ t200) (wrap64 (x4_1 + t181))) else (none))))) = some r := by rw [if_neg (show ¬ (false = true) by decide)] at H; exact H
                  clear H
                  have H := H1
                  clear H1
                  replace H := Option.bind_eq_some_iff.mp H
                  obtain ⟨t198, A530, H⟩ := H
                  replace H : (if t198 = true then ((spec_l19Put.f (wrap64 (t180 - 32))).bind fun t199 => (if x3_1.size + t199.size ≤ 9223372036854775807 then (spec_Upper.l0 k1 a0 (x3_1 ++ t199) (wrap64 (x4_1 + t181))) else (none))) else ((spec_l19Put.f t180).bind fun t200 => (if x3_1.size + t200.size ≤ 9223372036854775807 then (spec_Upper.l0 k1 a0 (x3_1 ++ t200) (wrap64 (x4_1 + t181))) else (none)))) = some r := H
                  have A53 := Aside0.mk A530
                  clear A530
                  by_cases c54 : t198 = true
                  · subst c54
                    have H1 : ((spec_l19Put.f (wrap64 (t180 - 32))).bind fun t199 => (if x3_1.size + t199.size ≤ 9223372036854775807 then (spec_Upper.l0 k1 a0 (x3_1 ++ t199) (wrap64 (x4_1 + t181))) else (none))) = some r := by rw [if_pos rfl] at H; exact H
                    clear H
                    have H := H1
                    clear H1
                    replace H := Option.bind_eq_some_iff.mp H
                    obtain ⟨t199, A550, H⟩ := H
                    replace H : (if x3_1.size + t199.size ≤ 9223372036854775807 then (spec_Upper.l0 k1 a0 (x3_1 ++ t199) (wrap64 (x4_1 + t181))) else (none)) = some r := H
                    have A55 := Aside0.mk A550
                    clear A550
                    by_cases c56 : x3_1.size + t199.size ≤ 9223372036854775807
                    · rw [if_pos c56] at H
                      have c56b0 := eq_true c56
                      have c56b1 : decide (x3_1.size + t199.size ≤ 9223372036854775807) = true := decide_eq_true c56
                      try have c56b2 : (9223372036854775807 < x3_1.size + t199.size) = False := eq_false (Nat.not_lt.2 c56)
                      have H' := Aside0.mk H
                      clear H
                      go_wp2_with (first | ((with_reducible refine gate_callee (f := 21) rfl ?_); refine goesL_ (some 17) rfl rfl Tryd.func21 (by kernel_rfl) rfl #[.string a0, .int .i64 x4_1] rfl (by (try simp only [List.map_toArray, List.map_cons, List.map_nil]); first | done | rfl | (simp only [List.length_drop, List.length_take]; rfl)) ?_; (with_reducible refine (spec_l19Rune.calls a0 x4_1 t180 t181 _ A5.out).mono ?_); rintro e w' ⟨rfl, ⟨nd, rfl⟩⟩; refine ⟨_, rfl, ?_⟩) | (go_at_call 23; (with_reducible refine (spec_l1In.calls t180 224 254 false _ A11.out).mono ?_); rintro e w' ⟨rfl, ⟨nd, rfl⟩⟩) | (go_at_call 23; (with_reducible refine (spec_l1In.calls t180 945 969 false _ A39.out).mono ?_); rintro e w' ⟨rfl, ⟨nd, rfl⟩⟩) | (go_at_call 23; (with_reducible refine (spec_l1In.calls t180 1072 1103 true _ A53.out).mono ?_); rintro e w' ⟨rfl, ⟨nd, rfl⟩⟩) | ((with_reducible refine gate_callee (f := 34) rfl ?_); refine goesL_ (some 50) rfl rfl Tryd.func34 (by kernel_rfl) rfl #[.int .i64 (wrap64 (t180 - 32))] rfl (by (try simp only [List.map_toArray, List.map_cons, List.map_nil]); first | done | rfl | (simp only [List.length_drop, List.length_take]; rfl)) ?_; (with_reducible refine (spec_l19Put.calls (wrap64 (t180 - 32)) t199 _ A55.out).mono ?_); rintro e w57 ⟨rfl, hb⟩; refine ⟨_, rfl, ?_⟩; have n0_ := Aside0.mk (below_step (by repeat (first | (with_reducible first | exact HB.out | apply below_alloc | apply pw_below_drewN | apply below_drew1) | exact HB.out)) hb); clear HB; have HB := n0_; clear n0_; (try clear hb); (try clear hb2); (try clear hk); (try clear hi)))
                      go_roundg k1
                      case measure => have := HK1.out; omega
                      case rel => exact ⟨(x3_1 ++ t199), (wrap64 (x4_1 + t181)), (by first | rfl | (simp; done) | (simp [*]; done)), (by first | rfl | (simp; done) | (simp [*]; done)), H', ⟨by have := HK1.out; omega⟩, ⟨by repeat (first | (with_reducible first | exact HB.out | apply below_alloc | apply pw_below_drewN | apply below_drew1) | exact HB.out)⟩⟩
                    · rw [if_neg c56] at H
                      exact absurd H (by simp)
                  · replace c54 := Bool.eq_false_iff.mpr c54
                    subst c54
                    have H1 : ((spec_l19Put.f t180).bind fun t200 => (if x3_1.size + t200.size ≤ 9223372036854775807 then (spec_Upper.l0 k1 a0 (x3_1 ++ t200) (wrap64 (x4_1 + t181))) else (none))) = some r := by rw [if_neg (show ¬ (false = true) by decide)] at H; exact H
                    clear H
                    have H := H1
                    clear H1
                    replace H := Option.bind_eq_some_iff.mp H
                    obtain ⟨t200, A580, H⟩ := H
                    replace H : (if x3_1.size + t200.size ≤ 9223372036854775807 then (spec_Upper.l0 k1 a0 (x3_1 ++ t200) (wrap64 (x4_1 + t181))) else (none)) = some r := H
                    have A58 := Aside0.mk A580
                    clear A580
                    by_cases c59 : x3_1.size + t200.size ≤ 9223372036854775807
                    · rw [if_pos c59] at H
                      have c59b0 := eq_true c59
                      have c59b1 : decide (x3_1.size + t200.size ≤ 9223372036854775807) = true := decide_eq_true c59
                      try have c59b2 : (9223372036854775807 < x3_1.size + t200.size) = False := eq_false (Nat.not_lt.2 c59)
                      have H' := Aside0.mk H
                      clear H
                      go_wp2_with (first | ((with_reducible refine gate_callee (f := 21) rfl ?_); refine goesL_ (some 17) rfl rfl Tryd.func21 (by kernel_rfl) rfl #[.string a0, .int .i64 x4_1] rfl (by (try simp only [List.map_toArray, List.map_cons, List.map_nil]); first | done | rfl | (simp only [List.length_drop, List.length_take]; rfl)) ?_; (with_reducible refine (spec_l19Rune.calls a0 x4_1 t180 t181 _ A5.out).mono ?_); rintro e w' ⟨rfl, ⟨nd, rfl⟩⟩; refine ⟨_, rfl, ?_⟩) | (go_at_call 23; (with_reducible refine (spec_l1In.calls t180 224 254 false _ A11.out).mono ?_); rintro e w' ⟨rfl, ⟨nd, rfl⟩⟩) | (go_at_call 23; (with_reducible refine (spec_l1In.calls t180 945 969 false _ A39.out).mono ?_); rintro e w' ⟨rfl, ⟨nd, rfl⟩⟩) | (go_at_call 23; (with_reducible refine (spec_l1In.calls t180 1072 1103 false _ A53.out).mono ?_); rintro e w' ⟨rfl, ⟨nd, rfl⟩⟩) | ((with_reducible refine gate_callee (f := 34) rfl ?_); refine goesL_ (some 50) rfl rfl Tryd.func34 (by kernel_rfl) rfl #[.int .i64 t180] rfl (by (try simp only [List.map_toArray, List.map_cons, List.map_nil]); first | done | rfl | (simp only [List.length_drop, List.length_take]; rfl)) ?_; (with_reducible refine (spec_l19Put.calls t180 t200 _ A58.out).mono ?_); rintro e w60 ⟨rfl, hb⟩; refine ⟨_, rfl, ?_⟩; have n0_ := Aside0.mk (below_step (by repeat (first | (with_reducible first | exact HB.out | apply below_alloc | apply pw_below_drewN | apply below_drew1) | exact HB.out)) hb); clear HB; have HB := n0_; clear n0_; (try clear hb); (try clear hb2); (try clear hk); (try clear hi)))
                      go_roundg k1
                      case measure => have := HK1.out; omega
                      case rel => exact ⟨(x3_1 ++ t200), (wrap64 (x4_1 + t181)), (by first | rfl | (simp; done) | (simp [*]; done)), (by first | rfl | (simp; done) | (simp [*]; done)), H', ⟨by have := HK1.out; omega⟩, ⟨by repeat (first | (with_reducible first | exact HB.out | apply below_alloc | apply pw_below_drewN | apply below_drew1) | exact HB.out)⟩⟩
                    · rw [if_neg c59] at H
                      exact absurd H (by simp)
          · rw [if_neg c6] at H
            have c6b0 : decide (97 ≤ t180) = false := decide_eq_false c6
            clear c6
            replace H := Option.bind_eq_some_iff.mp H
            obtain ⟨t201, A610, H⟩ := H
            replace H : (if t201 = true then (if t180 = 247 then ((spec_l1In.f t180 945 969).bind fun t202 => (if t202 = true then (if t180 = 962 then ((spec_l1In.f t180 1072 1103).bind fun t203 => (if t203 = true then ((spec_l19Put.f (wrap64 (t180 - 32))).bind fun t204 => (if x3_1.size + t204.size ≤ 9223372036854775807 then (spec_Upper.l0 k1 a0 (x3_1 ++ t204) (wrap64 (x4_1 + t181))) else (none))) else ((spec_l19Put.f t180).bind fun t205 => (if x3_1.size + t205.size ≤ 9223372036854775807 then (spec_Upper.l0 k1 a0 (x3_1 ++ t205) (wrap64 (x4_1 + t181))) else (none))))) else ((spec_l19Put.f (wrap64 (t180 - 32))).bind fun t206 => (if x3_1.size + t206.size ≤ 9223372036854775807 then (spec_Upper.l0 k1 a0 (x3_1 ++ t206) (wrap64 (x4_1 + t181))) else (none)))) else ((spec_l1In.f t180 1072 1103).bind fun t207 => (if t207 = true then ((spec_l19Put.f (wrap64 (t180 - 32))).bind fun t208 => (if x3_1.size + t208.size ≤ 9223372036854775807 then (spec_Upper.l0 k1 a0 (x3_1 ++ t208) (wrap64 (x4_1 + t181))) else (none))) else ((spec_l19Put.f t180).bind fun t209 => (if x3_1.size + t209.size ≤ 9223372036854775807 then (spec_Upper.l0 k1 a0 (x3_1 ++ t209) (wrap64 (x4_1 + t181))) else (none))))))) else ((spec_l19Put.f (wrap64 (t180 - 32))).bind fun t210 => (if x3_1.size + t210.size ≤ 9223372036854775807 then (spec_Upper.l0 k1 a0 (x3_1 ++ t210) (wrap64 (x4_1 + t181))) else (none)))) else ((spec_l1In.f t180 945 969).bind fun t211 => (if t211 = true then (if t180 = 962 then ((spec_l1In.f t180 1072 1103).bind fun t212 => (if t212 = true then ((spec_l19Put.f (wrap64 (t180 - 32))).bind fun t213 => (if x3_1.size + t213.size ≤ 9223372036854775807 then (spec_Upper.l0 k1 a0 (x3_1 ++ t213) (wrap64 (x4_1 + t181))) else (none))) else ((spec_l19Put.f t180).bind fun t214 => (if x3_1.size + t214.size ≤ 9223372036854775807 then (spec_Upper.l0 k1 a0 (x3_1 ++ t214) (wrap64 (x4_1 + t181))) else (none))))) else ((spec_l19Put.f (wrap64 (t180 - 32))).bind fun t215 => (if x3_1.size + t215.size ≤ 9223372036854775807 then (spec_Upper.l0 k1 a0 (x3_1 ++ t215) (wrap64 (x4_1 + t181))) else (none)))) else ((spec_l1In.f t180 1072 1103).bind fun t216 => (if t216 = true then ((spec_l19Put.f (wrap64 (t180 - 32))).bind fun t217 => (if x3_1.size + t217.size ≤ 9223372036854775807 then (spec_Upper.l0 k1 a0 (x3_1 ++ t217) (wrap64 (x4_1 + t181))) else (none))) else ((spec_l19Put.f t180).bind fun t218 => (if x3_1.size + t218.size ≤ 9223372036854775807 then (spec_Upper.l0 k1 a0 (x3_1 ++ t218) (wrap64 (x4_1 + t181))) else (none)))))))) = some r := H
            have A61 := Aside0.mk A610
            clear A610
            by_cases c62 : t201 = true
            · subst c62
              have H1 : (if t180 = 247 then ((spec_l1In.f t180 945 969).bind fun t202 => (if t202 = true then (if t180 = 962 then ((spec_l1In.f t180 1072 1103).bind fun t203 => (if t203 = true then ((spec_l19Put.f (wrap64 (t180 - 32))).bind fun t204 => (if x3_1.size + t204.size ≤ 9223372036854775807 then (spec_Upper.l0 k1 a0 (x3_1 ++ t204) (wrap64 (x4_1 + t181))) else (none))) else ((spec_l19Put.f t180).bind fun t205 => (if x3_1.size + t205.size ≤ 9223372036854775807 then (spec_Upper.l0 k1 a0 (x3_1 ++ t205) (wrap64 (x4_1 + t181))) else (none))))) else ((spec_l19Put.f (wrap64 (t180 - 32))).bind fun t206 => (if x3_1.size + t206.size ≤ 9223372036854775807 then (spec_Upper.l0 k1 a0 (x3_1 ++ t206) (wrap64 (x4_1 + t181))) else (none)))) else ((spec_l1In.f t180 1072 1103).bind fun t207 => (if t207 = true then ((spec_l19Put.f (wrap64 (t180 - 32))).bind fun t208 => (if x3_1.size + t208.size ≤ 9223372036854775807 then (spec_Upper.l0 k1 a0 (x3_1 ++ t208) (wrap64 (x4_1 + t181))) else (none))) else ((spec_l19Put.f t180).bind fun t209 => (if x3_1.size + t209.size ≤ 9223372036854775807 then (spec_Upper.l0 k1 a0 (x3_1 ++ t209) (wrap64 (x4_1 + t181))) else (none))))))) else ((spec_l19Put.f (wrap64 (t180 - 32))).bind fun t210 => (if x3_1.size + t210.size ≤ 9223372036854775807 then (spec_Upper.l0 k1 a0 (x3_1 ++ t210) (wrap64 (x4_1 + t181))) else (none)))) = some r := by rw [if_pos rfl] at H; exact H
              clear H
              have H := H1
              clear H1
              by_cases c63 : t180 = 247
              · rw [if_pos c63] at H
                have c63b0 : (t180 == 247) = true := beq_iff_eq.mpr c63
                have c63b1 : (t180 != 247) = false := bne_eq_false_iff_eq.mpr c63
                clear c63
                replace H := Option.bind_eq_some_iff.mp H
                obtain ⟨t202, A640, H⟩ := H
                replace H : (if t202 = true then (if t180 = 962 then ((spec_l1In.f t180 1072 1103).bind fun t203 => (if t203 = true then ((spec_l19Put.f (wrap64 (t180 - 32))).bind fun t204 => (if x3_1.size + t204.size ≤ 9223372036854775807 then (spec_Upper.l0 k1 a0 (x3_1 ++ t204) (wrap64 (x4_1 + t181))) else (none))) else ((spec_l19Put.f t180).bind fun t205 => (if x3_1.size + t205.size ≤ 9223372036854775807 then (spec_Upper.l0 k1 a0 (x3_1 ++ t205) (wrap64 (x4_1 + t181))) else (none))))) else ((spec_l19Put.f (wrap64 (t180 - 32))).bind fun t206 => (if x3_1.size + t206.size ≤ 9223372036854775807 then (spec_Upper.l0 k1 a0 (x3_1 ++ t206) (wrap64 (x4_1 + t181))) else (none)))) else ((spec_l1In.f t180 1072 1103).bind fun t207 => (if t207 = true then ((spec_l19Put.f (wrap64 (t180 - 32))).bind fun t208 => (if x3_1.size + t208.size ≤ 9223372036854775807 then (spec_Upper.l0 k1 a0 (x3_1 ++ t208) (wrap64 (x4_1 + t181))) else (none))) else ((spec_l19Put.f t180).bind fun t209 => (if x3_1.size + t209.size ≤ 9223372036854775807 then (spec_Upper.l0 k1 a0 (x3_1 ++ t209) (wrap64 (x4_1 + t181))) else (none)))))) = some r := H
                have A64 := Aside0.mk A640
                clear A640
                by_cases c65 : t202 = true
                · subst c65
                  have H1 : (if t180 = 962 then ((spec_l1In.f t180 1072 1103).bind fun t203 => (if t203 = true then ((spec_l19Put.f (wrap64 (t180 - 32))).bind fun t204 => (if x3_1.size + t204.size ≤ 9223372036854775807 then (spec_Upper.l0 k1 a0 (x3_1 ++ t204) (wrap64 (x4_1 + t181))) else (none))) else ((spec_l19Put.f t180).bind fun t205 => (if x3_1.size + t205.size ≤ 9223372036854775807 then (spec_Upper.l0 k1 a0 (x3_1 ++ t205) (wrap64 (x4_1 + t181))) else (none))))) else ((spec_l19Put.f (wrap64 (t180 - 32))).bind fun t206 => (if x3_1.size + t206.size ≤ 9223372036854775807 then (spec_Upper.l0 k1 a0 (x3_1 ++ t206) (wrap64 (x4_1 + t181))) else (none)))) = some r := by rw [if_pos rfl] at H; exact H
                  clear H
                  have H := H1
                  clear H1
                  by_cases c66 : t180 = 962
                  · rw [if_pos c66] at H
                    have c66b0 : (t180 == 962) = true := beq_iff_eq.mpr c66
                    have c66b1 : (t180 != 962) = false := bne_eq_false_iff_eq.mpr c66
                    clear c66
                    replace H := Option.bind_eq_some_iff.mp H
                    obtain ⟨t203, A670, H⟩ := H
                    replace H : (if t203 = true then ((spec_l19Put.f (wrap64 (t180 - 32))).bind fun t204 => (if x3_1.size + t204.size ≤ 9223372036854775807 then (spec_Upper.l0 k1 a0 (x3_1 ++ t204) (wrap64 (x4_1 + t181))) else (none))) else ((spec_l19Put.f t180).bind fun t205 => (if x3_1.size + t205.size ≤ 9223372036854775807 then (spec_Upper.l0 k1 a0 (x3_1 ++ t205) (wrap64 (x4_1 + t181))) else (none)))) = some r := H
                    have A67 := Aside0.mk A670
                    clear A670
                    by_cases c68 : t203 = true
                    · subst c68
                      have H1 : ((spec_l19Put.f (wrap64 (t180 - 32))).bind fun t204 => (if x3_1.size + t204.size ≤ 9223372036854775807 then (spec_Upper.l0 k1 a0 (x3_1 ++ t204) (wrap64 (x4_1 + t181))) else (none))) = some r := by rw [if_pos rfl] at H; exact H
                      clear H
                      have H := H1
                      clear H1
                      replace H := Option.bind_eq_some_iff.mp H
                      obtain ⟨t204, A690, H⟩ := H
                      replace H : (if x3_1.size + t204.size ≤ 9223372036854775807 then (spec_Upper.l0 k1 a0 (x3_1 ++ t204) (wrap64 (x4_1 + t181))) else (none)) = some r := H
                      have A69 := Aside0.mk A690
                      clear A690
                      by_cases c70 : x3_1.size + t204.size ≤ 9223372036854775807
                      · rw [if_pos c70] at H
                        have c70b0 := eq_true c70
                        have c70b1 : decide (x3_1.size + t204.size ≤ 9223372036854775807) = true := decide_eq_true c70
                        try have c70b2 : (9223372036854775807 < x3_1.size + t204.size) = False := eq_false (Nat.not_lt.2 c70)
                        have H' := Aside0.mk H
                        clear H
                        go_wp2_with (first | ((with_reducible refine gate_callee (f := 21) rfl ?_); refine goesL_ (some 17) rfl rfl Tryd.func21 (by kernel_rfl) rfl #[.string a0, .int .i64 x4_1] rfl (by (try simp only [List.map_toArray, List.map_cons, List.map_nil]); first | done | rfl | (simp only [List.length_drop, List.length_take]; rfl)) ?_; (with_reducible refine (spec_l19Rune.calls a0 x4_1 t180 t181 _ A5.out).mono ?_); rintro e w' ⟨rfl, ⟨nd, rfl⟩⟩; refine ⟨_, rfl, ?_⟩) | (go_at_call 23; (with_reducible refine (spec_l1In.calls t180 224 254 true _ A61.out).mono ?_); rintro e w' ⟨rfl, ⟨nd, rfl⟩⟩) | (go_at_call 23; (with_reducible refine (spec_l1In.calls t180 945 969 true _ A64.out).mono ?_); rintro e w' ⟨rfl, ⟨nd, rfl⟩⟩) | (go_at_call 23; (with_reducible refine (spec_l1In.calls t180 1072 1103 true _ A67.out).mono ?_); rintro e w' ⟨rfl, ⟨nd, rfl⟩⟩) | ((with_reducible refine gate_callee (f := 34) rfl ?_); refine goesL_ (some 50) rfl rfl Tryd.func34 (by kernel_rfl) rfl #[.int .i64 (wrap64 (t180 - 32))] rfl (by (try simp only [List.map_toArray, List.map_cons, List.map_nil]); first | done | rfl | (simp only [List.length_drop, List.length_take]; rfl)) ?_; (with_reducible refine (spec_l19Put.calls (wrap64 (t180 - 32)) t204 _ A69.out).mono ?_); rintro e w71 ⟨rfl, hb⟩; refine ⟨_, rfl, ?_⟩; have n0_ := Aside0.mk (below_step (by repeat (first | (with_reducible first | exact HB.out | apply below_alloc | apply pw_below_drewN | apply below_drew1) | exact HB.out)) hb); clear HB; have HB := n0_; clear n0_; (try clear hb); (try clear hb2); (try clear hk); (try clear hi)))
                        go_roundg k1
                        case measure => have := HK1.out; omega
                        case rel => exact ⟨(x3_1 ++ t204), (wrap64 (x4_1 + t181)), (by first | rfl | (simp; done) | (simp [*]; done)), (by first | rfl | (simp; done) | (simp [*]; done)), H', ⟨by have := HK1.out; omega⟩, ⟨by repeat (first | (with_reducible first | exact HB.out | apply below_alloc | apply pw_below_drewN | apply below_drew1) | exact HB.out)⟩⟩
                      · rw [if_neg c70] at H
                        exact absurd H (by simp)
                    · replace c68 := Bool.eq_false_iff.mpr c68
                      subst c68
                      have H1 : ((spec_l19Put.f t180).bind fun t205 => (if x3_1.size + t205.size ≤ 9223372036854775807 then (spec_Upper.l0 k1 a0 (x3_1 ++ t205) (wrap64 (x4_1 + t181))) else (none))) = some r := by rw [if_neg (show ¬ (false = true) by decide)] at H; exact H
                      clear H
                      have H := H1
                      clear H1
                      replace H := Option.bind_eq_some_iff.mp H
                      obtain ⟨t205, A720, H⟩ := H
                      replace H : (if x3_1.size + t205.size ≤ 9223372036854775807 then (spec_Upper.l0 k1 a0 (x3_1 ++ t205) (wrap64 (x4_1 + t181))) else (none)) = some r := H
                      have A72 := Aside0.mk A720
                      clear A720
                      by_cases c73 : x3_1.size + t205.size ≤ 9223372036854775807
                      · rw [if_pos c73] at H
                        have c73b0 := eq_true c73
                        have c73b1 : decide (x3_1.size + t205.size ≤ 9223372036854775807) = true := decide_eq_true c73
                        try have c73b2 : (9223372036854775807 < x3_1.size + t205.size) = False := eq_false (Nat.not_lt.2 c73)
                        have H' := Aside0.mk H
                        clear H
                        go_wp2_with (first | ((with_reducible refine gate_callee (f := 21) rfl ?_); refine goesL_ (some 17) rfl rfl Tryd.func21 (by kernel_rfl) rfl #[.string a0, .int .i64 x4_1] rfl (by (try simp only [List.map_toArray, List.map_cons, List.map_nil]); first | done | rfl | (simp only [List.length_drop, List.length_take]; rfl)) ?_; (with_reducible refine (spec_l19Rune.calls a0 x4_1 t180 t181 _ A5.out).mono ?_); rintro e w' ⟨rfl, ⟨nd, rfl⟩⟩; refine ⟨_, rfl, ?_⟩) | (go_at_call 23; (with_reducible refine (spec_l1In.calls t180 224 254 true _ A61.out).mono ?_); rintro e w' ⟨rfl, ⟨nd, rfl⟩⟩) | (go_at_call 23; (with_reducible refine (spec_l1In.calls t180 945 969 true _ A64.out).mono ?_); rintro e w' ⟨rfl, ⟨nd, rfl⟩⟩) | (go_at_call 23; (with_reducible refine (spec_l1In.calls t180 1072 1103 false _ A67.out).mono ?_); rintro e w' ⟨rfl, ⟨nd, rfl⟩⟩) | ((with_reducible refine gate_callee (f := 34) rfl ?_); refine goesL_ (some 50) rfl rfl Tryd.func34 (by kernel_rfl) rfl #[.int .i64 t180] rfl (by (try simp only [List.map_toArray, List.map_cons, List.map_nil]); first | done | rfl | (simp only [List.length_drop, List.length_take]; rfl)) ?_; (with_reducible refine (spec_l19Put.calls t180 t205 _ A72.out).mono ?_); rintro e w74 ⟨rfl, hb⟩; refine ⟨_, rfl, ?_⟩; have n0_ := Aside0.mk (below_step (by repeat (first | (with_reducible first | exact HB.out | apply below_alloc | apply pw_below_drewN | apply below_drew1) | exact HB.out)) hb); clear HB; have HB := n0_; clear n0_; (try clear hb); (try clear hb2); (try clear hk); (try clear hi)))
                        go_roundg k1
                        case measure => have := HK1.out; omega
                        case rel => exact ⟨(x3_1 ++ t205), (wrap64 (x4_1 + t181)), (by first | rfl | (simp; done) | (simp [*]; done)), (by first | rfl | (simp; done) | (simp [*]; done)), H', ⟨by have := HK1.out; omega⟩, ⟨by repeat (first | (with_reducible first | exact HB.out | apply below_alloc | apply pw_below_drewN | apply below_drew1) | exact HB.out)⟩⟩
                      · rw [if_neg c73] at H
                        exact absurd H (by simp)
                  · rw [if_neg c66] at H
                    have c66b0 : (t180 == 962) = false := beq_eq_false_iff_ne.mpr c66
                    have c66b1 : (t180 != 962) = true := bne_iff_ne.mpr c66
                    replace H := Option.bind_eq_some_iff.mp H
                    obtain ⟨t206, A750, H⟩ := H
                    replace H : (if x3_1.size + t206.size ≤ 9223372036854775807 then (spec_Upper.l0 k1 a0 (x3_1 ++ t206) (wrap64 (x4_1 + t181))) else (none)) = some r := H
                    have A75 := Aside0.mk A750
                    clear A750
                    by_cases c76 : x3_1.size + t206.size ≤ 9223372036854775807
                    · rw [if_pos c76] at H
                      have c76b0 := eq_true c76
                      have c76b1 : decide (x3_1.size + t206.size ≤ 9223372036854775807) = true := decide_eq_true c76
                      try have c76b2 : (9223372036854775807 < x3_1.size + t206.size) = False := eq_false (Nat.not_lt.2 c76)
                      have H' := Aside0.mk H
                      clear H
                      go_wp2_with (first | ((with_reducible refine gate_callee (f := 21) rfl ?_); refine goesL_ (some 17) rfl rfl Tryd.func21 (by kernel_rfl) rfl #[.string a0, .int .i64 x4_1] rfl (by (try simp only [List.map_toArray, List.map_cons, List.map_nil]); first | done | rfl | (simp only [List.length_drop, List.length_take]; rfl)) ?_; (with_reducible refine (spec_l19Rune.calls a0 x4_1 t180 t181 _ A5.out).mono ?_); rintro e w' ⟨rfl, ⟨nd, rfl⟩⟩; refine ⟨_, rfl, ?_⟩) | (go_at_call 23; (with_reducible refine (spec_l1In.calls t180 224 254 true _ A61.out).mono ?_); rintro e w' ⟨rfl, ⟨nd, rfl⟩⟩) | (go_at_call 23; (with_reducible refine (spec_l1In.calls t180 945 969 true _ A64.out).mono ?_); rintro e w' ⟨rfl, ⟨nd, rfl⟩⟩) | ((with_reducible refine gate_callee (f := 34) rfl ?_); refine goesL_ (some 50) rfl rfl Tryd.func34 (by kernel_rfl) rfl #[.int .i64 (wrap64 (t180 - 32))] rfl (by (try simp only [List.map_toArray, List.map_cons, List.map_nil]); first | done | rfl | (simp only [List.length_drop, List.length_take]; rfl)) ?_; (with_reducible refine (spec_l19Put.calls (wrap64 (t180 - 32)) t206 _ A75.out).mono ?_); rintro e w77 ⟨rfl, hb⟩; refine ⟨_, rfl, ?_⟩; have n0_ := Aside0.mk (below_step (by repeat (first | (with_reducible first | exact HB.out | apply below_alloc | apply pw_below_drewN | apply below_drew1) | exact HB.out)) hb); clear HB; have HB := n0_; clear n0_; (try clear hb); (try clear hb2); (try clear hk); (try clear hi)))
                      go_roundg k1
                      case measure => have := HK1.out; omega
                      case rel => exact ⟨(x3_1 ++ t206), (wrap64 (x4_1 + t181)), (by first | rfl | (simp; done) | (simp [*]; done)), (by first | rfl | (simp; done) | (simp [*]; done)), H', ⟨by have := HK1.out; omega⟩, ⟨by repeat (first | (with_reducible first | exact HB.out | apply below_alloc | apply pw_below_drewN | apply below_drew1) | exact HB.out)⟩⟩
                    · rw [if_neg c76] at H
                      exact absurd H (by simp)
                · replace c65 := Bool.eq_false_iff.mpr c65
                  subst c65
                  have H1 : ((spec_l1In.f t180 1072 1103).bind fun t207 => (if t207 = true then ((spec_l19Put.f (wrap64 (t180 - 32))).bind fun t208 => (if x3_1.size + t208.size ≤ 9223372036854775807 then (spec_Upper.l0 k1 a0 (x3_1 ++ t208) (wrap64 (x4_1 + t181))) else (none))) else ((spec_l19Put.f t180).bind fun t209 => (if x3_1.size + t209.size ≤ 9223372036854775807 then (spec_Upper.l0 k1 a0 (x3_1 ++ t209) (wrap64 (x4_1 + t181))) else (none))))) = some r := by rw [if_neg (show ¬ (false = true) by decide)] at H; exact H
                  clear H
                  have H := H1
                  clear H1
                  replace H := Option.bind_eq_some_iff.mp H
                  obtain ⟨t207, A780, H⟩ := H
                  replace H : (if t207 = true then ((spec_l19Put.f (wrap64 (t180 - 32))).bind fun t208 => (if x3_1.size + t208.size ≤ 9223372036854775807 then (spec_Upper.l0 k1 a0 (x3_1 ++ t208) (wrap64 (x4_1 + t181))) else (none))) else ((spec_l19Put.f t180).bind fun t209 => (if x3_1.size + t209.size ≤ 9223372036854775807 then (spec_Upper.l0 k1 a0 (x3_1 ++ t209) (wrap64 (x4_1 + t181))) else (none)))) = some r := H
                  have A78 := Aside0.mk A780
                  clear A780
                  by_cases c79 : t207 = true
                  · subst c79
                    have H1 : ((spec_l19Put.f (wrap64 (t180 - 32))).bind fun t208 => (if x3_1.size + t208.size ≤ 9223372036854775807 then (spec_Upper.l0 k1 a0 (x3_1 ++ t208) (wrap64 (x4_1 + t181))) else (none))) = some r := by rw [if_pos rfl] at H; exact H
                    clear H
                    have H := H1
                    clear H1
                    replace H := Option.bind_eq_some_iff.mp H
                    obtain ⟨t208, A800, H⟩ := H
                    replace H : (if x3_1.size + t208.size ≤ 9223372036854775807 then (spec_Upper.l0 k1 a0 (x3_1 ++ t208) (wrap64 (x4_1 + t181))) else (none)) = some r := H
                    have A80 := Aside0.mk A800
                    clear A800
                    by_cases c81 : x3_1.size + t208.size ≤ 9223372036854775807
                    · rw [if_pos c81] at H
                      have c81b0 := eq_true c81
                      have c81b1 : decide (x3_1.size + t208.size ≤ 9223372036854775807) = true := decide_eq_true c81
                      try have c81b2 : (9223372036854775807 < x3_1.size + t208.size) = False := eq_false (Nat.not_lt.2 c81)
                      have H' := Aside0.mk H
                      clear H
                      go_wp2_with (first | ((with_reducible refine gate_callee (f := 21) rfl ?_); refine goesL_ (some 17) rfl rfl Tryd.func21 (by kernel_rfl) rfl #[.string a0, .int .i64 x4_1] rfl (by (try simp only [List.map_toArray, List.map_cons, List.map_nil]); first | done | rfl | (simp only [List.length_drop, List.length_take]; rfl)) ?_; (with_reducible refine (spec_l19Rune.calls a0 x4_1 t180 t181 _ A5.out).mono ?_); rintro e w' ⟨rfl, ⟨nd, rfl⟩⟩; refine ⟨_, rfl, ?_⟩) | (go_at_call 23; (with_reducible refine (spec_l1In.calls t180 224 254 true _ A61.out).mono ?_); rintro e w' ⟨rfl, ⟨nd, rfl⟩⟩) | (go_at_call 23; (with_reducible refine (spec_l1In.calls t180 945 969 false _ A64.out).mono ?_); rintro e w' ⟨rfl, ⟨nd, rfl⟩⟩) | (go_at_call 23; (with_reducible refine (spec_l1In.calls t180 1072 1103 true _ A78.out).mono ?_); rintro e w' ⟨rfl, ⟨nd, rfl⟩⟩) | ((with_reducible refine gate_callee (f := 34) rfl ?_); refine goesL_ (some 50) rfl rfl Tryd.func34 (by kernel_rfl) rfl #[.int .i64 (wrap64 (t180 - 32))] rfl (by (try simp only [List.map_toArray, List.map_cons, List.map_nil]); first | done | rfl | (simp only [List.length_drop, List.length_take]; rfl)) ?_; (with_reducible refine (spec_l19Put.calls (wrap64 (t180 - 32)) t208 _ A80.out).mono ?_); rintro e w82 ⟨rfl, hb⟩; refine ⟨_, rfl, ?_⟩; have n0_ := Aside0.mk (below_step (by repeat (first | (with_reducible first | exact HB.out | apply below_alloc | apply pw_below_drewN | apply below_drew1) | exact HB.out)) hb); clear HB; have HB := n0_; clear n0_; (try clear hb); (try clear hb2); (try clear hk); (try clear hi)))
                      go_roundg k1
                      case measure => have := HK1.out; omega
                      case rel => exact ⟨(x3_1 ++ t208), (wrap64 (x4_1 + t181)), (by first | rfl | (simp; done) | (simp [*]; done)), (by first | rfl | (simp; done) | (simp [*]; done)), H', ⟨by have := HK1.out; omega⟩, ⟨by repeat (first | (with_reducible first | exact HB.out | apply below_alloc | apply pw_below_drewN | apply below_drew1) | exact HB.out)⟩⟩
                    · rw [if_neg c81] at H
                      exact absurd H (by simp)
                  · replace c79 := Bool.eq_false_iff.mpr c79
                    subst c79
                    have H1 : ((spec_l19Put.f t180).bind fun t209 => (if x3_1.size + t209.size ≤ 9223372036854775807 then (spec_Upper.l0 k1 a0 (x3_1 ++ t209) (wrap64 (x4_1 + t181))) else (none))) = some r := by rw [if_neg (show ¬ (false = true) by decide)] at H; exact H
                    clear H
                    have H := H1
                    clear H1
                    replace H := Option.bind_eq_some_iff.mp H
                    obtain ⟨t209, A830, H⟩ := H
                    replace H : (if x3_1.size + t209.size ≤ 9223372036854775807 then (spec_Upper.l0 k1 a0 (x3_1 ++ t209) (wrap64 (x4_1 + t181))) else (none)) = some r := H
                    have A83 := Aside0.mk A830
                    clear A830
                    by_cases c84 : x3_1.size + t209.size ≤ 9223372036854775807
                    · rw [if_pos c84] at H
                      have c84b0 := eq_true c84
                      have c84b1 : decide (x3_1.size + t209.size ≤ 9223372036854775807) = true := decide_eq_true c84
                      try have c84b2 : (9223372036854775807 < x3_1.size + t209.size) = False := eq_false (Nat.not_lt.2 c84)
                      have H' := Aside0.mk H
                      clear H
                      go_wp2_with (first | ((with_reducible refine gate_callee (f := 21) rfl ?_); refine goesL_ (some 17) rfl rfl Tryd.func21 (by kernel_rfl) rfl #[.string a0, .int .i64 x4_1] rfl (by (try simp only [List.map_toArray, List.map_cons, List.map_nil]); first | done | rfl | (simp only [List.length_drop, List.length_take]; rfl)) ?_; (with_reducible refine (spec_l19Rune.calls a0 x4_1 t180 t181 _ A5.out).mono ?_); rintro e w' ⟨rfl, ⟨nd, rfl⟩⟩; refine ⟨_, rfl, ?_⟩) | (go_at_call 23; (with_reducible refine (spec_l1In.calls t180 224 254 true _ A61.out).mono ?_); rintro e w' ⟨rfl, ⟨nd, rfl⟩⟩) | (go_at_call 23; (with_reducible refine (spec_l1In.calls t180 945 969 false _ A64.out).mono ?_); rintro e w' ⟨rfl, ⟨nd, rfl⟩⟩) | (go_at_call 23; (with_reducible refine (spec_l1In.calls t180 1072 1103 false _ A78.out).mono ?_); rintro e w' ⟨rfl, ⟨nd, rfl⟩⟩) | ((with_reducible refine gate_callee (f := 34) rfl ?_); refine goesL_ (some 50) rfl rfl Tryd.func34 (by kernel_rfl) rfl #[.int .i64 t180] rfl (by (try simp only [List.map_toArray, List.map_cons, List.map_nil]); first | done | rfl | (simp only [List.length_drop, List.length_take]; rfl)) ?_; (with_reducible refine (spec_l19Put.calls t180 t209 _ A83.out).mono ?_); rintro e w85 ⟨rfl, hb⟩; refine ⟨_, rfl, ?_⟩; have n0_ := Aside0.mk (below_step (by repeat (first | (with_reducible first | exact HB.out | apply below_alloc | apply pw_below_drewN | apply below_drew1) | exact HB.out)) hb); clear HB; have HB := n0_; clear n0_; (try clear hb); (try clear hb2); (try clear hk); (try clear hi)))
                      go_roundg k1
                      case measure => have := HK1.out; omega
                      case rel => exact ⟨(x3_1 ++ t209), (wrap64 (x4_1 + t181)), (by first | rfl | (simp; done) | (simp [*]; done)), (by first | rfl | (simp; done) | (simp [*]; done)), H', ⟨by have := HK1.out; omega⟩, ⟨by repeat (first | (with_reducible first | exact HB.out | apply below_alloc | apply pw_below_drewN | apply below_drew1) | exact HB.out)⟩⟩
                    · rw [if_neg c84] at H
                      exact absurd H (by simp)
              · rw [if_neg c63] at H
                have c63b0 : (t180 == 247) = false := beq_eq_false_iff_ne.mpr c63
                have c63b1 : (t180 != 247) = true := bne_iff_ne.mpr c63
                replace H := Option.bind_eq_some_iff.mp H
                obtain ⟨t210, A860, H⟩ := H
                replace H : (if x3_1.size + t210.size ≤ 9223372036854775807 then (spec_Upper.l0 k1 a0 (x3_1 ++ t210) (wrap64 (x4_1 + t181))) else (none)) = some r := H
                have A86 := Aside0.mk A860
                clear A860
                by_cases c87 : x3_1.size + t210.size ≤ 9223372036854775807
                · rw [if_pos c87] at H
                  have c87b0 := eq_true c87
                  have c87b1 : decide (x3_1.size + t210.size ≤ 9223372036854775807) = true := decide_eq_true c87
                  try have c87b2 : (9223372036854775807 < x3_1.size + t210.size) = False := eq_false (Nat.not_lt.2 c87)
                  have H' := Aside0.mk H
                  clear H
                  go_wp2_with (first | ((with_reducible refine gate_callee (f := 21) rfl ?_); refine goesL_ (some 17) rfl rfl Tryd.func21 (by kernel_rfl) rfl #[.string a0, .int .i64 x4_1] rfl (by (try simp only [List.map_toArray, List.map_cons, List.map_nil]); first | done | rfl | (simp only [List.length_drop, List.length_take]; rfl)) ?_; (with_reducible refine (spec_l19Rune.calls a0 x4_1 t180 t181 _ A5.out).mono ?_); rintro e w' ⟨rfl, ⟨nd, rfl⟩⟩; refine ⟨_, rfl, ?_⟩) | (go_at_call 23; (with_reducible refine (spec_l1In.calls t180 224 254 true _ A61.out).mono ?_); rintro e w' ⟨rfl, ⟨nd, rfl⟩⟩) | ((with_reducible refine gate_callee (f := 34) rfl ?_); refine goesL_ (some 50) rfl rfl Tryd.func34 (by kernel_rfl) rfl #[.int .i64 (wrap64 (t180 - 32))] rfl (by (try simp only [List.map_toArray, List.map_cons, List.map_nil]); first | done | rfl | (simp only [List.length_drop, List.length_take]; rfl)) ?_; (with_reducible refine (spec_l19Put.calls (wrap64 (t180 - 32)) t210 _ A86.out).mono ?_); rintro e w88 ⟨rfl, hb⟩; refine ⟨_, rfl, ?_⟩; have n0_ := Aside0.mk (below_step (by repeat (first | (with_reducible first | exact HB.out | apply below_alloc | apply pw_below_drewN | apply below_drew1) | exact HB.out)) hb); clear HB; have HB := n0_; clear n0_; (try clear hb); (try clear hb2); (try clear hk); (try clear hi)))
                  go_roundg k1
                  case measure => have := HK1.out; omega
                  case rel => exact ⟨(x3_1 ++ t210), (wrap64 (x4_1 + t181)), (by first | rfl | (simp; done) | (simp [*]; done)), (by first | rfl | (simp; done) | (simp [*]; done)), H', ⟨by have := HK1.out; omega⟩, ⟨by repeat (first | (with_reducible first | exact HB.out | apply below_alloc | apply pw_below_drewN | apply below_drew1) | exact HB.out)⟩⟩
                · rw [if_neg c87] at H
                  exact absurd H (by simp)
            · replace c62 := Bool.eq_false_iff.mpr c62
              subst c62
              have H1 : ((spec_l1In.f t180 945 969).bind fun t211 => (if t211 = true then (if t180 = 962 then ((spec_l1In.f t180 1072 1103).bind fun t212 => (if t212 = true then ((spec_l19Put.f (wrap64 (t180 - 32))).bind fun t213 => (if x3_1.size + t213.size ≤ 9223372036854775807 then (spec_Upper.l0 k1 a0 (x3_1 ++ t213) (wrap64 (x4_1 + t181))) else (none))) else ((spec_l19Put.f t180).bind fun t214 => (if x3_1.size + t214.size ≤ 9223372036854775807 then (spec_Upper.l0 k1 a0 (x3_1 ++ t214) (wrap64 (x4_1 + t181))) else (none))))) else ((spec_l19Put.f (wrap64 (t180 - 32))).bind fun t215 => (if x3_1.size + t215.size ≤ 9223372036854775807 then (spec_Upper.l0 k1 a0 (x3_1 ++ t215) (wrap64 (x4_1 + t181))) else (none)))) else ((spec_l1In.f t180 1072 1103).bind fun t216 => (if t216 = true then ((spec_l19Put.f (wrap64 (t180 - 32))).bind fun t217 => (if x3_1.size + t217.size ≤ 9223372036854775807 then (spec_Upper.l0 k1 a0 (x3_1 ++ t217) (wrap64 (x4_1 + t181))) else (none))) else ((spec_l19Put.f t180).bind fun t218 => (if x3_1.size + t218.size ≤ 9223372036854775807 then (spec_Upper.l0 k1 a0 (x3_1 ++ t218) (wrap64 (x4_1 + t181))) else (none))))))) = some r := by rw [if_neg (show ¬ (false = true) by decide)] at H; exact H
              clear H
              have H := H1
              clear H1
              replace H := Option.bind_eq_some_iff.mp H
              obtain ⟨t211, A890, H⟩ := H
              replace H : (if t211 = true then (if t180 = 962 then ((spec_l1In.f t180 1072 1103).bind fun t212 => (if t212 = true then ((spec_l19Put.f (wrap64 (t180 - 32))).bind fun t213 => (if x3_1.size + t213.size ≤ 9223372036854775807 then (spec_Upper.l0 k1 a0 (x3_1 ++ t213) (wrap64 (x4_1 + t181))) else (none))) else ((spec_l19Put.f t180).bind fun t214 => (if x3_1.size + t214.size ≤ 9223372036854775807 then (spec_Upper.l0 k1 a0 (x3_1 ++ t214) (wrap64 (x4_1 + t181))) else (none))))) else ((spec_l19Put.f (wrap64 (t180 - 32))).bind fun t215 => (if x3_1.size + t215.size ≤ 9223372036854775807 then (spec_Upper.l0 k1 a0 (x3_1 ++ t215) (wrap64 (x4_1 + t181))) else (none)))) else ((spec_l1In.f t180 1072 1103).bind fun t216 => (if t216 = true then ((spec_l19Put.f (wrap64 (t180 - 32))).bind fun t217 => (if x3_1.size + t217.size ≤ 9223372036854775807 then (spec_Upper.l0 k1 a0 (x3_1 ++ t217) (wrap64 (x4_1 + t181))) else (none))) else ((spec_l19Put.f t180).bind fun t218 => (if x3_1.size + t218.size ≤ 9223372036854775807 then (spec_Upper.l0 k1 a0 (x3_1 ++ t218) (wrap64 (x4_1 + t181))) else (none)))))) = some r := H
              have A89 := Aside0.mk A890
              clear A890
              by_cases c90 : t211 = true
              · subst c90
                have H1 : (if t180 = 962 then ((spec_l1In.f t180 1072 1103).bind fun t212 => (if t212 = true then ((spec_l19Put.f (wrap64 (t180 - 32))).bind fun t213 => (if x3_1.size + t213.size ≤ 9223372036854775807 then (spec_Upper.l0 k1 a0 (x3_1 ++ t213) (wrap64 (x4_1 + t181))) else (none))) else ((spec_l19Put.f t180).bind fun t214 => (if x3_1.size + t214.size ≤ 9223372036854775807 then (spec_Upper.l0 k1 a0 (x3_1 ++ t214) (wrap64 (x4_1 + t181))) else (none))))) else ((spec_l19Put.f (wrap64 (t180 - 32))).bind fun t215 => (if x3_1.size + t215.size ≤ 9223372036854775807 then (spec_Upper.l0 k1 a0 (x3_1 ++ t215) (wrap64 (x4_1 + t181))) else (none)))) = some r := by rw [if_pos rfl] at H; exact H
                clear H
                have H := H1
                clear H1
                by_cases c91 : t180 = 962
                · rw [if_pos c91] at H
                  have c91b0 : (t180 == 962) = true := beq_iff_eq.mpr c91
                  have c91b1 : (t180 != 962) = false := bne_eq_false_iff_eq.mpr c91
                  clear c91
                  replace H := Option.bind_eq_some_iff.mp H
                  obtain ⟨t212, A920, H⟩ := H
                  replace H : (if t212 = true then ((spec_l19Put.f (wrap64 (t180 - 32))).bind fun t213 => (if x3_1.size + t213.size ≤ 9223372036854775807 then (spec_Upper.l0 k1 a0 (x3_1 ++ t213) (wrap64 (x4_1 + t181))) else (none))) else ((spec_l19Put.f t180).bind fun t214 => (if x3_1.size + t214.size ≤ 9223372036854775807 then (spec_Upper.l0 k1 a0 (x3_1 ++ t214) (wrap64 (x4_1 + t181))) else (none)))) = some r := H
                  have A92 := Aside0.mk A920
                  clear A920
                  by_cases c93 : t212 = true
                  · subst c93
                    have H1 : ((spec_l19Put.f (wrap64 (t180 - 32))).bind fun t213 => (if x3_1.size + t213.size ≤ 9223372036854775807 then (spec_Upper.l0 k1 a0 (x3_1 ++ t213) (wrap64 (x4_1 + t181))) else (none))) = some r := by rw [if_pos rfl] at H; exact H
                    clear H
                    have H := H1
                    clear H1
                    replace H := Option.bind_eq_some_iff.mp H
                    obtain ⟨t213, A940, H⟩ := H
                    replace H : (if x3_1.size + t213.size ≤ 9223372036854775807 then (spec_Upper.l0 k1 a0 (x3_1 ++ t213) (wrap64 (x4_1 + t181))) else (none)) = some r := H
                    have A94 := Aside0.mk A940
                    clear A940
                    by_cases c95 : x3_1.size + t213.size ≤ 9223372036854775807
                    · rw [if_pos c95] at H
                      have c95b0 := eq_true c95
                      have c95b1 : decide (x3_1.size + t213.size ≤ 9223372036854775807) = true := decide_eq_true c95
                      try have c95b2 : (9223372036854775807 < x3_1.size + t213.size) = False := eq_false (Nat.not_lt.2 c95)
                      have H' := Aside0.mk H
                      clear H
                      go_wp2_with (first | ((with_reducible refine gate_callee (f := 21) rfl ?_); refine goesL_ (some 17) rfl rfl Tryd.func21 (by kernel_rfl) rfl #[.string a0, .int .i64 x4_1] rfl (by (try simp only [List.map_toArray, List.map_cons, List.map_nil]); first | done | rfl | (simp only [List.length_drop, List.length_take]; rfl)) ?_; (with_reducible refine (spec_l19Rune.calls a0 x4_1 t180 t181 _ A5.out).mono ?_); rintro e w' ⟨rfl, ⟨nd, rfl⟩⟩; refine ⟨_, rfl, ?_⟩) | (go_at_call 23; (with_reducible refine (spec_l1In.calls t180 224 254 false _ A61.out).mono ?_); rintro e w' ⟨rfl, ⟨nd, rfl⟩⟩) | (go_at_call 23; (with_reducible refine (spec_l1In.calls t180 945 969 true _ A89.out).mono ?_); rintro e w' ⟨rfl, ⟨nd, rfl⟩⟩) | (go_at_call 23; (with_reducible refine (spec_l1In.calls t180 1072 1103 true _ A92.out).mono ?_); rintro e w' ⟨rfl, ⟨nd, rfl⟩⟩) | ((with_reducible refine gate_callee (f := 34) rfl ?_); refine goesL_ (some 50) rfl rfl Tryd.func34 (by kernel_rfl) rfl #[.int .i64 (wrap64 (t180 - 32))] rfl (by (try simp only [List.map_toArray, List.map_cons, List.map_nil]); first | done | rfl | (simp only [List.length_drop, List.length_take]; rfl)) ?_; (with_reducible refine (spec_l19Put.calls (wrap64 (t180 - 32)) t213 _ A94.out).mono ?_); rintro e w96 ⟨rfl, hb⟩; refine ⟨_, rfl, ?_⟩; have n0_ := Aside0.mk (below_step (by repeat (first | (with_reducible first | exact HB.out | apply below_alloc | apply pw_below_drewN | apply below_drew1) | exact HB.out)) hb); clear HB; have HB := n0_; clear n0_; (try clear hb); (try clear hb2); (try clear hk); (try clear hi)))
                      go_roundg k1
                      case measure => have := HK1.out; omega
                      case rel => exact ⟨(x3_1 ++ t213), (wrap64 (x4_1 + t181)), (by first | rfl | (simp; done) | (simp [*]; done)), (by first | rfl | (simp; done) | (simp [*]; done)), H', ⟨by have := HK1.out; omega⟩, ⟨by repeat (first | (with_reducible first | exact HB.out | apply below_alloc | apply pw_below_drewN | apply below_drew1) | exact HB.out)⟩⟩
                    · rw [if_neg c95] at H
                      exact absurd H (by simp)
                  · replace c93 := Bool.eq_false_iff.mpr c93
                    subst c93
                    have H1 : ((spec_l19Put.f t180).bind fun t214 => (if x3_1.size + t214.size ≤ 9223372036854775807 then (spec_Upper.l0 k1 a0 (x3_1 ++ t214) (wrap64 (x4_1 + t181))) else (none))) = some r := by rw [if_neg (show ¬ (false = true) by decide)] at H; exact H
                    clear H
                    have H := H1
                    clear H1
                    replace H := Option.bind_eq_some_iff.mp H
                    obtain ⟨t214, A970, H⟩ := H
                    replace H : (if x3_1.size + t214.size ≤ 9223372036854775807 then (spec_Upper.l0 k1 a0 (x3_1 ++ t214) (wrap64 (x4_1 + t181))) else (none)) = some r := H
                    have A97 := Aside0.mk A970
                    clear A970
                    by_cases c98 : x3_1.size + t214.size ≤ 9223372036854775807
                    · rw [if_pos c98] at H
                      have c98b0 := eq_true c98
                      have c98b1 : decide (x3_1.size + t214.size ≤ 9223372036854775807) = true := decide_eq_true c98
                      try have c98b2 : (9223372036854775807 < x3_1.size + t214.size) = False := eq_false (Nat.not_lt.2 c98)
                      have H' := Aside0.mk H
                      clear H
                      go_wp2_with (first | ((with_reducible refine gate_callee (f := 21) rfl ?_); refine goesL_ (some 17) rfl rfl Tryd.func21 (by kernel_rfl) rfl #[.string a0, .int .i64 x4_1] rfl (by (try simp only [List.map_toArray, List.map_cons, List.map_nil]); first | done | rfl | (simp only [List.length_drop, List.length_take]; rfl)) ?_; (with_reducible refine (spec_l19Rune.calls a0 x4_1 t180 t181 _ A5.out).mono ?_); rintro e w' ⟨rfl, ⟨nd, rfl⟩⟩; refine ⟨_, rfl, ?_⟩) | (go_at_call 23; (with_reducible refine (spec_l1In.calls t180 224 254 false _ A61.out).mono ?_); rintro e w' ⟨rfl, ⟨nd, rfl⟩⟩) | (go_at_call 23; (with_reducible refine (spec_l1In.calls t180 945 969 true _ A89.out).mono ?_); rintro e w' ⟨rfl, ⟨nd, rfl⟩⟩) | (go_at_call 23; (with_reducible refine (spec_l1In.calls t180 1072 1103 false _ A92.out).mono ?_); rintro e w' ⟨rfl, ⟨nd, rfl⟩⟩) | ((with_reducible refine gate_callee (f := 34) rfl ?_); refine goesL_ (some 50) rfl rfl Tryd.func34 (by kernel_rfl) rfl #[.int .i64 t180] rfl (by (try simp only [List.map_toArray, List.map_cons, List.map_nil]); first | done | rfl | (simp only [List.length_drop, List.length_take]; rfl)) ?_; (with_reducible refine (spec_l19Put.calls t180 t214 _ A97.out).mono ?_); rintro e w99 ⟨rfl, hb⟩; refine ⟨_, rfl, ?_⟩; have n0_ := Aside0.mk (below_step (by repeat (first | (with_reducible first | exact HB.out | apply below_alloc | apply pw_below_drewN | apply below_drew1) | exact HB.out)) hb); clear HB; have HB := n0_; clear n0_; (try clear hb); (try clear hb2); (try clear hk); (try clear hi)))
                      go_roundg k1
                      case measure => have := HK1.out; omega
                      case rel => exact ⟨(x3_1 ++ t214), (wrap64 (x4_1 + t181)), (by first | rfl | (simp; done) | (simp [*]; done)), (by first | rfl | (simp; done) | (simp [*]; done)), H', ⟨by have := HK1.out; omega⟩, ⟨by repeat (first | (with_reducible first | exact HB.out | apply below_alloc | apply pw_below_drewN | apply below_drew1) | exact HB.out)⟩⟩
                    · rw [if_neg c98] at H
                      exact absurd H (by simp)
                · rw [if_neg c91] at H
                  have c91b0 : (t180 == 962) = false := beq_eq_false_iff_ne.mpr c91
                  have c91b1 : (t180 != 962) = true := bne_iff_ne.mpr c91
                  replace H := Option.bind_eq_some_iff.mp H
                  obtain ⟨t215, A1000, H⟩ := H
                  replace H : (if x3_1.size + t215.size ≤ 9223372036854775807 then (spec_Upper.l0 k1 a0 (x3_1 ++ t215) (wrap64 (x4_1 + t181))) else (none)) = some r := H
                  have A100 := Aside0.mk A1000
                  clear A1000
                  by_cases c101 : x3_1.size + t215.size ≤ 9223372036854775807
                  · rw [if_pos c101] at H
                    have c101b0 := eq_true c101
                    have c101b1 : decide (x3_1.size + t215.size ≤ 9223372036854775807) = true := decide_eq_true c101
                    try have c101b2 : (9223372036854775807 < x3_1.size + t215.size) = False := eq_false (Nat.not_lt.2 c101)
                    have H' := Aside0.mk H
                    clear H
                    go_wp2_with (first | ((with_reducible refine gate_callee (f := 21) rfl ?_); refine goesL_ (some 17) rfl rfl Tryd.func21 (by kernel_rfl) rfl #[.string a0, .int .i64 x4_1] rfl (by (try simp only [List.map_toArray, List.map_cons, List.map_nil]); first | done | rfl | (simp only [List.length_drop, List.length_take]; rfl)) ?_; (with_reducible refine (spec_l19Rune.calls a0 x4_1 t180 t181 _ A5.out).mono ?_); rintro e w' ⟨rfl, ⟨nd, rfl⟩⟩; refine ⟨_, rfl, ?_⟩) | (go_at_call 23; (with_reducible refine (spec_l1In.calls t180 224 254 false _ A61.out).mono ?_); rintro e w' ⟨rfl, ⟨nd, rfl⟩⟩) | (go_at_call 23; (with_reducible refine (spec_l1In.calls t180 945 969 true _ A89.out).mono ?_); rintro e w' ⟨rfl, ⟨nd, rfl⟩⟩) | ((with_reducible refine gate_callee (f := 34) rfl ?_); refine goesL_ (some 50) rfl rfl Tryd.func34 (by kernel_rfl) rfl #[.int .i64 (wrap64 (t180 - 32))] rfl (by (try simp only [List.map_toArray, List.map_cons, List.map_nil]); first | done | rfl | (simp only [List.length_drop, List.length_take]; rfl)) ?_; (with_reducible refine (spec_l19Put.calls (wrap64 (t180 - 32)) t215 _ A100.out).mono ?_); rintro e w102 ⟨rfl, hb⟩; refine ⟨_, rfl, ?_⟩; have n0_ := Aside0.mk (below_step (by repeat (first | (with_reducible first | exact HB.out | apply below_alloc | apply pw_below_drewN | apply below_drew1) | exact HB.out)) hb); clear HB; have HB := n0_; clear n0_; (try clear hb); (try clear hb2); (try clear hk); (try clear hi)))
                    go_roundg k1
                    case measure => have := HK1.out; omega
                    case rel => exact ⟨(x3_1 ++ t215), (wrap64 (x4_1 + t181)), (by first | rfl | (simp; done) | (simp [*]; done)), (by first | rfl | (simp; done) | (simp [*]; done)), H', ⟨by have := HK1.out; omega⟩, ⟨by repeat (first | (with_reducible first | exact HB.out | apply below_alloc | apply pw_below_drewN | apply below_drew1) | exact HB.out)⟩⟩
                  · rw [if_neg c101] at H
                    exact absurd H (by simp)
              · replace c90 := Bool.eq_false_iff.mpr c90
                subst c90
                have H1 : ((spec_l1In.f t180 1072 1103).bind fun t216 => (if t216 = true then ((spec_l19Put.f (wrap64 (t180 - 32))).bind fun t217 => (if x3_1.size + t217.size ≤ 9223372036854775807 then (spec_Upper.l0 k1 a0 (x3_1 ++ t217) (wrap64 (x4_1 + t181))) else (none))) else ((spec_l19Put.f t180).bind fun t218 => (if x3_1.size + t218.size ≤ 9223372036854775807 then (spec_Upper.l0 k1 a0 (x3_1 ++ t218) (wrap64 (x4_1 + t181))) else (none))))) = some r := by rw [if_neg (show ¬ (false = true) by decide)] at H; exact H
                clear H
                have H := H1
                clear H1
                replace H := Option.bind_eq_some_iff.mp H
                obtain ⟨t216, A1030, H⟩ := H
                replace H : (if t216 = true then ((spec_l19Put.f (wrap64 (t180 - 32))).bind fun t217 => (if x3_1.size + t217.size ≤ 9223372036854775807 then (spec_Upper.l0 k1 a0 (x3_1 ++ t217) (wrap64 (x4_1 + t181))) else (none))) else ((spec_l19Put.f t180).bind fun t218 => (if x3_1.size + t218.size ≤ 9223372036854775807 then (spec_Upper.l0 k1 a0 (x3_1 ++ t218) (wrap64 (x4_1 + t181))) else (none)))) = some r := H
                have A103 := Aside0.mk A1030
                clear A1030
                by_cases c104 : t216 = true
                · subst c104
                  have H1 : ((spec_l19Put.f (wrap64 (t180 - 32))).bind fun t217 => (if x3_1.size + t217.size ≤ 9223372036854775807 then (spec_Upper.l0 k1 a0 (x3_1 ++ t217) (wrap64 (x4_1 + t181))) else (none))) = some r := by rw [if_pos rfl] at H; exact H
                  clear H
                  have H := H1
                  clear H1
                  replace H := Option.bind_eq_some_iff.mp H
                  obtain ⟨t217, A1050, H⟩ := H
                  replace H : (if x3_1.size + t217.size ≤ 9223372036854775807 then (spec_Upper.l0 k1 a0 (x3_1 ++ t217) (wrap64 (x4_1 + t181))) else (none)) = some r := H
                  have A105 := Aside0.mk A1050
                  clear A1050
                  by_cases c106 : x3_1.size + t217.size ≤ 9223372036854775807
                  · rw [if_pos c106] at H
                    have c106b0 := eq_true c106
                    have c106b1 : decide (x3_1.size + t217.size ≤ 9223372036854775807) = true := decide_eq_true c106
                    try have c106b2 : (9223372036854775807 < x3_1.size + t217.size) = False := eq_false (Nat.not_lt.2 c106)
                    have H' := Aside0.mk H
                    clear H
                    go_wp2_with (first | ((with_reducible refine gate_callee (f := 21) rfl ?_); refine goesL_ (some 17) rfl rfl Tryd.func21 (by kernel_rfl) rfl #[.string a0, .int .i64 x4_1] rfl (by (try simp only [List.map_toArray, List.map_cons, List.map_nil]); first | done | rfl | (simp only [List.length_drop, List.length_take]; rfl)) ?_; (with_reducible refine (spec_l19Rune.calls a0 x4_1 t180 t181 _ A5.out).mono ?_); rintro e w' ⟨rfl, ⟨nd, rfl⟩⟩; refine ⟨_, rfl, ?_⟩) | (go_at_call 23; (with_reducible refine (spec_l1In.calls t180 224 254 false _ A61.out).mono ?_); rintro e w' ⟨rfl, ⟨nd, rfl⟩⟩) | (go_at_call 23; (with_reducible refine (spec_l1In.calls t180 945 969 false _ A89.out).mono ?_); rintro e w' ⟨rfl, ⟨nd, rfl⟩⟩) | (go_at_call 23; (with_reducible refine (spec_l1In.calls t180 1072 1103 true _ A103.out).mono ?_); rintro e w' ⟨rfl, ⟨nd, rfl⟩⟩) | ((with_reducible refine gate_callee (f := 34) rfl ?_); refine goesL_ (some 50) rfl rfl Tryd.func34 (by kernel_rfl) rfl #[.int .i64 (wrap64 (t180 - 32))] rfl (by (try simp only [List.map_toArray, List.map_cons, List.map_nil]); first | done | rfl | (simp only [List.length_drop, List.length_take]; rfl)) ?_; (with_reducible refine (spec_l19Put.calls (wrap64 (t180 - 32)) t217 _ A105.out).mono ?_); rintro e w107 ⟨rfl, hb⟩; refine ⟨_, rfl, ?_⟩; have n0_ := Aside0.mk (below_step (by repeat (first | (with_reducible first | exact HB.out | apply below_alloc | apply pw_below_drewN | apply below_drew1) | exact HB.out)) hb); clear HB; have HB := n0_; clear n0_; (try clear hb); (try clear hb2); (try clear hk); (try clear hi)))
                    go_roundg k1
                    case measure => have := HK1.out; omega
                    case rel => exact ⟨(x3_1 ++ t217), (wrap64 (x4_1 + t181)), (by first | rfl | (simp; done) | (simp [*]; done)), (by first | rfl | (simp; done) | (simp [*]; done)), H', ⟨by have := HK1.out; omega⟩, ⟨by repeat (first | (with_reducible first | exact HB.out | apply below_alloc | apply pw_below_drewN | apply below_drew1) | exact HB.out)⟩⟩
                  · rw [if_neg c106] at H
                    exact absurd H (by simp)
                · replace c104 := Bool.eq_false_iff.mpr c104
                  subst c104
                  have H1 : ((spec_l19Put.f t180).bind fun t218 => (if x3_1.size + t218.size ≤ 9223372036854775807 then (spec_Upper.l0 k1 a0 (x3_1 ++ t218) (wrap64 (x4_1 + t181))) else (none))) = some r := by rw [if_neg (show ¬ (false = true) by decide)] at H; exact H
                  clear H
                  have H := H1
                  clear H1
                  replace H := Option.bind_eq_some_iff.mp H
                  obtain ⟨t218, A1080, H⟩ := H
                  replace H : (if x3_1.size + t218.size ≤ 9223372036854775807 then (spec_Upper.l0 k1 a0 (x3_1 ++ t218) (wrap64 (x4_1 + t181))) else (none)) = some r := H
                  have A108 := Aside0.mk A1080
                  clear A1080
                  by_cases c109 : x3_1.size + t218.size ≤ 9223372036854775807
                  · rw [if_pos c109] at H
                    have c109b0 := eq_true c109
                    have c109b1 : decide (x3_1.size + t218.size ≤ 9223372036854775807) = true := decide_eq_true c109
                    try have c109b2 : (9223372036854775807 < x3_1.size + t218.size) = False := eq_false (Nat.not_lt.2 c109)
                    have H' := Aside0.mk H
                    clear H
                    go_wp2_with (first | ((with_reducible refine gate_callee (f := 21) rfl ?_); refine goesL_ (some 17) rfl rfl Tryd.func21 (by kernel_rfl) rfl #[.string a0, .int .i64 x4_1] rfl (by (try simp only [List.map_toArray, List.map_cons, List.map_nil]); first | done | rfl | (simp only [List.length_drop, List.length_take]; rfl)) ?_; (with_reducible refine (spec_l19Rune.calls a0 x4_1 t180 t181 _ A5.out).mono ?_); rintro e w' ⟨rfl, ⟨nd, rfl⟩⟩; refine ⟨_, rfl, ?_⟩) | (go_at_call 23; (with_reducible refine (spec_l1In.calls t180 224 254 false _ A61.out).mono ?_); rintro e w' ⟨rfl, ⟨nd, rfl⟩⟩) | (go_at_call 23; (with_reducible refine (spec_l1In.calls t180 945 969 false _ A89.out).mono ?_); rintro e w' ⟨rfl, ⟨nd, rfl⟩⟩) | (go_at_call 23; (with_reducible refine (spec_l1In.calls t180 1072 1103 false _ A103.out).mono ?_); rintro e w' ⟨rfl, ⟨nd, rfl⟩⟩) | ((with_reducible refine gate_callee (f := 34) rfl ?_); refine goesL_ (some 50) rfl rfl Tryd.func34 (by kernel_rfl) rfl #[.int .i64 t180] rfl (by (try simp only [List.map_toArray, List.map_cons, List.map_nil]); first | done | rfl | (simp only [List.length_drop, List.length_take]; rfl)) ?_; (with_reducible refine (spec_l19Put.calls t180 t218 _ A108.out).mono ?_); rintro e w110 ⟨rfl, hb⟩; refine ⟨_, rfl, ?_⟩; have n0_ := Aside0.mk (below_step (by repeat (first | (with_reducible first | exact HB.out | apply below_alloc | apply pw_below_drewN | apply below_drew1) | exact HB.out)) hb); clear HB; have HB := n0_; clear n0_; (try clear hb); (try clear hb2); (try clear hk); (try clear hi)))
                    go_roundg k1
                    case measure => have := HK1.out; omega
                    case rel => exact ⟨(x3_1 ++ t218), (wrap64 (x4_1 + t181)), (by first | rfl | (simp; done) | (simp [*]; done)), (by first | rfl | (simp; done) | (simp [*]; done)), H', ⟨by have := HK1.out; omega⟩, ⟨by repeat (first | (with_reducible first | exact HB.out | apply below_alloc | apply pw_below_drewN | apply below_drew1) | exact HB.out)⟩⟩
                  · rw [if_neg c109] at H
                    exact absurd H (by simp)
        · rw [if_neg c4] at H
          have c4b0 : decide (x4_1 < (a0.size : Int)) = false := decide_eq_false c4
          clear c4
          obtain rfl := Option.some.inj H
          go_wp2
          go_ret
          exact ⟨by first | rfl | (simp [errW_none, errW_some] <;> rfl) | (simp [*, errW_none, errW_some] <;> rfl), by repeat (first | (with_reducible first | exact HB.out | apply below_alloc | apply pw_below_drewN | apply below_drew1) | exact HB.out)⟩
  · replace c3 := Bool.eq_false_iff.mpr c3
    subst c3
    have H1 : (some (⟨#[]⟩ : ByteArray)) = some r := by rw [if_neg (show ¬ (false = true) by decide)] at H; exact H
    clear H
    have H := H1
    clear H1
    obtain rfl := Option.some.inj H
    go_enter Tryd.func15, Tryd.ntmps15
    go_wp2_with (first | ((with_reducible refine gate_callee (f := 8) rfl ?_); refine goesL_ (some 8) rfl rfl Tryd.func8 (by kernel_rfl) rfl #[.string a0] rfl (by (try simp only [List.map_toArray, List.map_cons, List.map_nil]); first | done | rfl | (simp only [List.length_drop, List.length_take]; rfl)) ?_; (with_reducible refine (spec_WordOk.calls k a0 false _ A2.out).mono ?_); rintro e w' ⟨rfl, ⟨nd, rfl⟩⟩; refine ⟨_, rfl, ?_⟩))
    go_ret
    exact ⟨by first | rfl | (simp [errW_none, errW_some] <;> rfl) | (simp [*, errW_none, errW_some] <;> rfl), by repeat (first | (with_reducible first | exact HB.out | apply below_alloc | apply pw_below_drewN | apply below_drew1) | exact HB.out)⟩



end Go.Proofs.YtjenfcocegbmdaaDoor.MFnUpper
