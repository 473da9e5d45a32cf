/- impl.Upper: what it answers, and that the code comes to it. -/
import Derived.Test.YtjenfcocegbmdaaDoorHandWord
import Derived.Test.YtjenfcocegbmdaaDoorShelfM
namespace Go.Proofs.YtjenfcocegbmdaaDoor.Hand
open Go Go.RowKit Go.Shelf Go.Proofs.YtjenfcocegbmdaaDoor.Mine Go.Proofs.YtjenfcocegbmdaaDoorW.PrintWords Go.Proofs.YtjenfcocegbmdaaDoorW.PrintLast Go.Proofs.YtjenfcocegbmdaaDoorW.PrintMore
attribute [local go_sem] max2_int min2_int max_two min_two max_three min_three max_four min_four
set_option linter.unusedVariables false
set_option linter.unusedSimpArgs false
/-- A small letter. -/
def upB (x : Int) : Bool := decide (97 ≤ x ∧ x ≤ 122) || (decide (224 ≤ x ∧ x ≤ 254) && (x != 247)) || (decide (945 ≤ x ∧ x ≤ 969) && (x != 962)) || decide (1072 ≤ x ∧ x ≤ 1103)
/-- The great one. -/
def upF (x : Int) : Int := if upB x = true then x - 32 else x
theorem in_eq (x a b : Int) : impl_in.f x a b = some (decide (a ≤ x ∧ x ≤ b)) := by
  unfold impl_in.f
  by_cases h : a ≤ x
  · simp [h]
  · simp [h]
set_option maxHeartbeats 4000000 in
set_option maxRecDepth 100000 in
/-- impl.Upper's function of a rune. -/
theorem up_calls (x : Int) (h0 : 0 ≤ x) (h1 : x ≤ 1114111) (w : World) :
    Calls Tryd.prog 36 #[.int .i32 x] w fun e w' => e = .returned (.int .i32 (upF x)) ∧ Below w.heap.size w w' := by
  have k1 := impl_in.calls x 97 122 _ (h := in_eq x 97 122)
  have k2 := impl_in.calls x 224 254 _ (h := in_eq x 224 254)
  have k3 := impl_in.calls x 945 969 _ (h := in_eq x 945 969)
  have k4 := impl_in.calls x 1072 1103 _ (h := in_eq x 1072 1103)
  have hw : IntKind.i64.wrap x = x := by rw [IntKind.wrap_i64]; omega
  have hw2 : IntKind.i32.wrap (x - 32) = x - 32 := by rw [IntKind.wrap_i32]; omega
  unfold upF upB
  generalize decide (97 ≤ x ∧ x ≤ 122) = B1 at k1 ⊢
  generalize decide (224 ≤ x ∧ x ≤ 254) = B2 at k2 ⊢
  generalize decide (945 ≤ x ∧ x ≤ 969) = B3 at k3 ⊢
  generalize decide (1072 ≤ x ∧ x ≤ 1103) = B4 at k4 ⊢
  obtain ⟨N1, hN1⟩ : ∃ b, (x != 247) = b := ⟨_, rfl⟩
  obtain ⟨N2, hN2⟩ : ∃ b, (x != 962) = b := ⟨_, rfl⟩
  rw [hN1, hN2]
  cases B1
  · cases B2
    · cases B3
      · cases B4
        · go_enter Tryd.func36, Tryd.ntmps36
          go_wp2_with (first | (go_at_call 25; (with_reducible refine (k1 _).mono ?_); rintro e w1 ⟨rfl, ⟨n1, rfl⟩⟩) | (go_at_call 25; (with_reducible refine (k2 _).mono ?_); rintro e w2 ⟨rfl, ⟨n2, rfl⟩⟩) | (go_at_call 25; (with_reducible refine (k3 _).mono ?_); rintro e w3 ⟨rfl, ⟨n3, rfl⟩⟩) | (go_at_call 25; (with_reducible refine (k4 _).mono ?_); rintro e w4 ⟨rfl, ⟨n4, rfl⟩⟩))
          go_ret
          exact ⟨rfl, by repeat (first | exact Below.refl _ _ | apply below_drewNv)⟩
        · go_enter Tryd.func36, Tryd.ntmps36
          go_wp2_with (first | (go_at_call 25; (with_reducible refine (k1 _).mono ?_); rintro e w1 ⟨rfl, ⟨n1, rfl⟩⟩) | (go_at_call 25; (with_reducible refine (k2 _).mono ?_); rintro e w2 ⟨rfl, ⟨n2, rfl⟩⟩) | (go_at_call 25; (with_reducible refine (k3 _).mono ?_); rintro e w3 ⟨rfl, ⟨n3, rfl⟩⟩) | (go_at_call 25; (with_reducible refine (k4 _).mono ?_); rintro e w4 ⟨rfl, ⟨n4, rfl⟩⟩))
          go_ret
          exact ⟨rfl, by repeat (first | exact Below.refl _ _ | apply below_drewNv)⟩
      · cases N2
        · cases B4
          · go_enter Tryd.func36, Tryd.ntmps36
            go_wp2_with (first | (go_at_call 25; (with_reducible refine (k1 _).mono ?_); rintro e w1 ⟨rfl, ⟨n1, rfl⟩⟩) | (go_at_call 25; (with_reducible refine (k2 _).mono ?_); rintro e w2 ⟨rfl, ⟨n2, rfl⟩⟩) | (go_at_call 25; (with_reducible refine (k3 _).mono ?_); rintro e w3 ⟨rfl, ⟨n3, rfl⟩⟩) | (go_at_call 25; (with_reducible refine (k4 _).mono ?_); rintro e w4 ⟨rfl, ⟨n4, rfl⟩⟩))
            go_ret
            exact ⟨rfl, by repeat (first | exact Below.refl _ _ | apply below_drewNv)⟩
          · go_enter Tryd.func36, Tryd.ntmps36
            go_wp2_with (first | (go_at_call 25; (with_reducible refine (k1 _).mono ?_); rintro e w1 ⟨rfl, ⟨n1, rfl⟩⟩) | (go_at_call 25; (with_reducible refine (k2 _).mono ?_); rintro e w2 ⟨rfl, ⟨n2, rfl⟩⟩) | (go_at_call 25; (with_reducible refine (k3 _).mono ?_); rintro e w3 ⟨rfl, ⟨n3, rfl⟩⟩) | (go_at_call 25; (with_reducible refine (k4 _).mono ?_); rintro e w4 ⟨rfl, ⟨n4, rfl⟩⟩))
            go_ret
            exact ⟨rfl, by repeat (first | exact Below.refl _ _ | apply below_drewNv)⟩
        · go_enter Tryd.func36, Tryd.ntmps36
          go_wp2_with (first | (go_at_call 25; (with_reducible refine (k1 _).mono ?_); rintro e w1 ⟨rfl, ⟨n1, rfl⟩⟩) | (go_at_call 25; (with_reducible refine (k2 _).mono ?_); rintro e w2 ⟨rfl, ⟨n2, rfl⟩⟩) | (go_at_call 25; (with_reducible refine (k3 _).mono ?_); rintro e w3 ⟨rfl, ⟨n3, rfl⟩⟩) | (go_at_call 25; (with_reducible refine (k4 _).mono ?_); rintro e w4 ⟨rfl, ⟨n4, rfl⟩⟩))
          go_ret
          exact ⟨rfl, by repeat (first | exact Below.refl _ _ | apply below_drewNv)⟩
    · cases N1
      · cases B3
        · cases B4
          · go_enter Tryd.func36, Tryd.ntmps36
            go_wp2_with (first | (go_at_call 25; (with_reducible refine (k1 _).mono ?_); rintro e w1 ⟨rfl, ⟨n1, rfl⟩⟩) | (go_at_call 25; (with_reducible refine (k2 _).mono ?_); rintro e w2 ⟨rfl, ⟨n2, rfl⟩⟩) | (go_at_call 25; (with_reducible refine (k3 _).mono ?_); rintro e w3 ⟨rfl, ⟨n3, rfl⟩⟩) | (go_at_call 25; (with_reducible refine (k4 _).mono ?_); rintro e w4 ⟨rfl, ⟨n4, rfl⟩⟩))
            go_ret
            exact ⟨rfl, by repeat (first | exact Below.refl _ _ | apply below_drewNv)⟩
          · go_enter Tryd.func36, Tryd.ntmps36
            go_wp2_with (first | (go_at_call 25; (with_reducible refine (k1 _).mono ?_); rintro e w1 ⟨rfl, ⟨n1, rfl⟩⟩) | (go_at_call 25; (with_reducible refine (k2 _).mono ?_); rintro e w2 ⟨rfl, ⟨n2, rfl⟩⟩) | (go_at_call 25; (with_reducible refine (k3 _).mono ?_); rintro e w3 ⟨rfl, ⟨n3, rfl⟩⟩) | (go_at_call 25; (with_reducible refine (k4 _).mono ?_); rintro e w4 ⟨rfl, ⟨n4, rfl⟩⟩))
            go_ret
            exact ⟨rfl, by repeat (first | exact Below.refl _ _ | apply below_drewNv)⟩
        · cases N2
          · cases B4
            · go_enter Tryd.func36, Tryd.ntmps36
              go_wp2_with (first | (go_at_call 25; (with_reducible refine (k1 _).mono ?_); rintro e w1 ⟨rfl, ⟨n1, rfl⟩⟩) | (go_at_call 25; (with_reducible refine (k2 _).mono ?_); rintro e w2 ⟨rfl, ⟨n2, rfl⟩⟩) | (go_at_call 25; (with_reducible refine (k3 _).mono ?_); rintro e w3 ⟨rfl, ⟨n3, rfl⟩⟩) | (go_at_call 25; (with_reducible refine (k4 _).mono ?_); rintro e w4 ⟨rfl, ⟨n4, rfl⟩⟩))
              go_ret
              exact ⟨rfl, by repeat (first | exact Below.refl _ _ | apply below_drewNv)⟩
            · go_enter Tryd.func36, Tryd.ntmps36
              go_wp2_with (first | (go_at_call 25; (with_reducible refine (k1 _).mono ?_); rintro e w1 ⟨rfl, ⟨n1, rfl⟩⟩) | (go_at_call 25; (with_reducible refine (k2 _).mono ?_); rintro e w2 ⟨rfl, ⟨n2, rfl⟩⟩) | (go_at_call 25; (with_reducible refine (k3 _).mono ?_); rintro e w3 ⟨rfl, ⟨n3, rfl⟩⟩) | (go_at_call 25; (with_reducible refine (k4 _).mono ?_); rintro e w4 ⟨rfl, ⟨n4, rfl⟩⟩))
              go_ret
              exact ⟨rfl, by repeat (first | exact Below.refl _ _ | apply below_drewNv)⟩
          · go_enter Tryd.func36, Tryd.ntmps36
            go_wp2_with (first | (go_at_call 25; (with_reducible refine (k1 _).mono ?_); rintro e w1 ⟨rfl, ⟨n1, rfl⟩⟩) | (go_at_call 25; (with_reducible refine (k2 _).mono ?_); rintro e w2 ⟨rfl, ⟨n2, rfl⟩⟩) | (go_at_call 25; (with_reducible refine (k3 _).mono ?_); rintro e w3 ⟨rfl, ⟨n3, rfl⟩⟩) | (go_at_call 25; (with_reducible refine (k4 _).mono ?_); rintro e w4 ⟨rfl, ⟨n4, rfl⟩⟩))
            go_ret
            exact ⟨rfl, by repeat (first | exact Below.refl _ _ | apply below_drewNv)⟩
      · go_enter Tryd.func36, Tryd.ntmps36
        go_wp2_with (first | (go_at_call 25; (with_reducible refine (k1 _).mono ?_); rintro e w1 ⟨rfl, ⟨n1, rfl⟩⟩) | (go_at_call 25; (with_reducible refine (k2 _).mono ?_); rintro e w2 ⟨rfl, ⟨n2, rfl⟩⟩) | (go_at_call 25; (with_reducible refine (k3 _).mono ?_); rintro e w3 ⟨rfl, ⟨n3, rfl⟩⟩) | (go_at_call 25; (with_reducible refine (k4 _).mono ?_); rintro e w4 ⟨rfl, ⟨n4, rfl⟩⟩))
        go_ret
        exact ⟨rfl, by repeat (first | exact Below.refl _ _ | apply below_drewNv)⟩
  · go_enter Tryd.func36, Tryd.ntmps36
    go_wp2_with (first | (go_at_call 25; (with_reducible refine (k1 _).mono ?_); rintro e w1 ⟨rfl, ⟨n1, rfl⟩⟩) | (go_at_call 25; (with_reducible refine (k2 _).mono ?_); rintro e w2 ⟨rfl, ⟨n2, rfl⟩⟩) | (go_at_call 25; (with_reducible refine (k3 _).mono ?_); rintro e w3 ⟨rfl, ⟨n3, rfl⟩⟩) | (go_at_call 25; (with_reducible refine (k4 _).mono ?_); rintro e w4 ⟨rfl, ⟨n4, rfl⟩⟩))
    go_ret
    exact ⟨rfl, by repeat (first | exact Below.refl _ _ | apply below_drewNv)⟩
/-- What impl.Upper answers. -/
def upperS (s : ByteArray) : ByteArray := if wordB s = true then ⟨(Lib.mapD upF s.data.toList).toArray⟩ else ⟨#[]⟩
theorem up_range (x : Nat) (h : x ≤ 1114111) : -2147483648 ≤ upF x ∧ upF x ≤ 2147483647 := by
  unfold upF
  split <;> omega
set_option maxRecDepth 100000 in
/-- impl.Upper. -/
theorem upper_calls (s : ByteArray) (w : World) (hs : s.size < 35184372088832) (hT : Tabs w) :
    Calls Tryd.prog 16 #[.string s] w fun e w' => e = .returned (.string (upperS s)) ∧ Below w.heap.size w w' := by
  have cW := word_calls s w (by omega) hT
  have cM : ∀ W, Tabs W → Calls Tryd.prog 35 #[.func (.func 36) #[] #[], .string s] W fun e w' => e = .returned (.string ⟨(Lib.mapD upF s.data.toList).toArray⟩) ∧ Below W.heap.size W w' := fun W hW =>
    Tryd.strings_Map_grows 36 #[] (fun args w => enters_of Tryd.func36 (by kernel_rfl) rfl args w) upF s W hs (fun W2 x hx hb => up_calls x (by omega) (by omega) W2) up_range hW
  unfold upperS
  cases hw : wordB s
  · rw [hw] at cW
    rw [if_neg (by decide)]
    go_enter Tryd.func16, Tryd.ntmps16
    go_wp2_with (first | (go_at_call 9; refine cW.mono ?_; rintro e w1 ⟨rfl, hb1⟩))
    go_ret
    exact ⟨rfl, hb1⟩
  · rw [hw] at cW
    rw [if_pos rfl]
    go_enter Tryd.func16, Tryd.ntmps16
    go_wp2_with (first | (go_at_call 9; refine cW.mono ?_; rintro e w1 ⟨rfl, hb1⟩) | (go_at_call 35; refine (cM _ (tabs_below hT hb1)).mono ?_; rintro e w2 ⟨rfl, hb2⟩))
    go_ret
    exact ⟨rfl, hb1.trans (hb2.mono hb1.size)⟩
end Go.Proofs.YtjenfcocegbmdaaDoor.Hand
