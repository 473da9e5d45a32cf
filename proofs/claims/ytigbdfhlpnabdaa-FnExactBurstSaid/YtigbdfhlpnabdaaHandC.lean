/- Contracts of the functions over floats, walked. -/
import Derived.Test.YtigbdfhlpnabdaaProg
import Derived.Below
import Derived.Deep.Draws
import Derived.Deep.AppendLies
import Derived.Maps.AppendAt
import Derived.OwnWalk
import Derived.Laws.BytesArg
import Derived.Laws.MakeOwn
import Derived.Laws.OwnMore
import Derived.Deep.OwnRows
import Derived.Tactics
import Derived.Lib.ConvBytes
import Derived.Laws.Slices
import Derived.WalkKit
import Derived.KernelRfl
import Derived.RowKit3
import Derived.Deep.LoopGhost
import Derived.Deep.QuietTactic
import Derived.BigQuiet
import Derived.WideLaws
import Derived.Deep.DeepCutAuto
import Derived.Deep.CutBlock
import Derived.Deep.RegionHeld3
import Derived.Laws.Rows
import Derived.Lib.AppendStr
import Derived.ArgAppend
import Derived.Laws.IdiomCopy
import Derived.OrdersHeld
import Derived.Laws.BitsLemmas
import Derived.RowKit
import Derived.Test.YtigbdfhlpnabdaaWWords
import Derived.Test.YtigbdfhlpnabdaaWLast
import Derived.Test.YtigbdfhlpnabdaaWTab
import Derived.Test.YtigbdfhlpnabdaaWFour
import Derived.Test.YtigbdfhlpnabdaaWQPut
import Derived.Test.YtigbdfhlpnabdaaWApart
import Derived.Test.YtigbdfhlpnabdaaWArr
import Derived.Test.YtigbdfhlpnabdaaWZeros
import Derived.Test.YtigbdfhlpnabdaaWFoot
import Derived.Test.YtigbdfhlpnabdaaWKept
import Derived.Test.YtigbdfhlpnabdaaWShare
import Derived.Test.YtigbdfhlpnabdaaWN
import Derived.Test.YtigbdfhlpnabdaaWFootNe
import Derived.Test.YtigbdfhlpnabdaaWAt
import Derived.Test.YtigbdfhlpnabdaaWEqStruct
import Derived.Test.YtigbdfhlpnabdaaWRepsOne
import Derived.Test.YtigbdfhlpnabdaaWInv
import Derived.Test.YtigbdfhlpnabdaaWInvWords
import Derived.Test.YtigbdfhlpnabdaaWGuard
import Derived.Test.YtigbdfhlpnabdaaWNEv
import Derived.Test.YtigbdfhlpnabdaaWMore
import Derived.Outline
import Derived.Lib.Hide
import Derived.Laws.CopyOwn
import Derived.Deep.RegionLaw
import Derived.IntWalk
import Derived.Test.YtigbdfhlpnabdaaFloat
import Derived.Test.YtigbdfhlpnabdaaHandA
namespace Go.Proofs.Ytigbdfhlpnabdaa.Hand
open Go Go.RowKit Go.Proofs.YtigbdfhlpnabdaaW.PrintWords Go.Proofs.YtigbdfhlpnabdaaW.PrintLast Go.Proofs.YtigbdfhlpnabdaaW.PrintMore Go.Proofs.Ytigbdfhlpnabdaa.Fl
attribute [local go_sem] run_fadd run_fsub run_fmul run_fquo run_widen run_store_float
set_option linter.unusedVariables false
set_option linter.unusedSimpArgs false
open Go.Proofs.Ytigbdfhlpnabdaa.Hand
attribute [local go_sem] unary_fneg
set_option maxHeartbeats 8000000 in
set_option maxRecDepth 100000 in
theorem impl_QuotWide.calls (a b c d : Nat) (w : World) (ha : a < 18446744073709551616) (hb_ : b < 18446744073709551616) (hc : c < 18446744073709551616) (hd : d < 18446744073709551616) : Calls Try.prog 23 #[.agg #[.float .f64 a, .float .f64 b], .agg #[.float .f64 c, .float .f64 d]] w fun e w' =>
    ∃ x y, e = .returned (.tuple #[.agg #[.float .f64 x, .float .f64 y], .bool (qok a b c d)]) ∧ (cls .f64 x, cls .f64 y) = qval a b c d ∧ Below w.heap.size w w' := by
  cases h1 : fin (cls .f64 a) with
  | false =>
    go_enter Try.func23, Try.ntmps23
    go_wp2_with (first | ((with_reducible refine gate_callee (f := 46) rfl ?_); (with_reducible refine gate_dst (N := 12) rfl ?_); (try (refine gate_guard (by rfl) ?_; dsimp only)); refine goesL_ (some 12) rfl rfl Try.func46 (by kernel_rfl) rfl #[.float .f64 a] rfl (by (try simp only [List.map_toArray, List.map_cons, List.map_nil]); first | done | rfl) ?_; (with_reducible refine (impl_finite.calls a _ ha).mono ?_); rintro e w2 ⟨rfl, ⟨n_, rfl⟩⟩; rw [h1]; refine ⟨_, rfl, ?_⟩))
    apply bodyPost_ret
    · simp [results, Try.f23, go_sem] <;> rfl
    · rfl
    · have hq : qok a b c d = false := by simp [qok, h1]
      refine ⟨_, _, by first | (rw [hq]; done) | (rw [hq]; rfl), ?_, ?_⟩
      · unfold qval; first | (rw [hq]; done) | (rw [hq]; rfl)
      · repeat (first | (with_reducible first | exact Below.refl _ _ | apply below_alloc | apply pw_below_drewN | apply below_drew1) | (refine below_set ?_ (by omega)) | exact Below.refl _ _)
  | true =>
  cases h2 : fin (cls .f64 b) with
  | false =>
    go_enter Try.func23, Try.ntmps23
    go_wp2_with (first | ((with_reducible refine gate_callee (f := 46) rfl ?_); (with_reducible refine gate_dst (N := 12) rfl ?_); (try (refine gate_guard (by rfl) ?_; dsimp only)); refine goesL_ (some 12) rfl rfl Try.func46 (by kernel_rfl) rfl #[.float .f64 a] rfl (by (try simp only [List.map_toArray, List.map_cons, List.map_nil]); first | done | rfl) ?_; (with_reducible refine (impl_finite.calls a _ ha).mono ?_); rintro e w2 ⟨rfl, ⟨n_, rfl⟩⟩; rw [h1]; refine ⟨_, rfl, ?_⟩) | ((with_reducible refine gate_callee (f := 46) rfl ?_); (with_reducible refine gate_dst (N := 17) rfl ?_); (try (refine gate_guard (by rfl) ?_; dsimp only)); refine goesL_ (some 17) rfl rfl Try.func46 (by kernel_rfl) rfl #[.float .f64 b] rfl (by (try simp only [List.map_toArray, List.map_cons, List.map_nil]); first | done | rfl) ?_; (with_reducible refine (impl_finite.calls b _ hb_).mono ?_); rintro e w2 ⟨rfl, ⟨n_, rfl⟩⟩; rw [h2]; refine ⟨_, rfl, ?_⟩))
    apply bodyPost_ret
    · simp [results, Try.f23, go_sem] <;> rfl
    · rfl
    · have hq : qok a b c d = false := by simp [qok, h1, h2]
      refine ⟨_, _, by first | (rw [hq]; done) | (rw [hq]; rfl), ?_, ?_⟩
      · unfold qval; first | (rw [hq]; done) | (rw [hq]; rfl)
      · repeat (first | (with_reducible first | exact Below.refl _ _ | apply below_alloc | apply pw_below_drewN | apply below_drew1) | (refine below_set ?_ (by omega)) | exact Below.refl _ _)
  | true =>
  cases h3 : fin (cls .f64 c) with
  | false =>
    go_enter Try.func23, Try.ntmps23
    go_wp2_with (first | ((with_reducible refine gate_callee (f := 46) rfl ?_); (with_reducible refine gate_dst (N := 12) rfl ?_); (try (refine gate_guard (by rfl) ?_; dsimp only)); refine goesL_ (some 12) rfl rfl Try.func46 (by kernel_rfl) rfl #[.float .f64 a] rfl (by (try simp only [List.map_toArray, List.map_cons, List.map_nil]); first | done | rfl) ?_; (with_reducible refine (impl_finite.calls a _ ha).mono ?_); rintro e w2 ⟨rfl, ⟨n_, rfl⟩⟩; rw [h1]; refine ⟨_, rfl, ?_⟩) | ((with_reducible refine gate_callee (f := 46) rfl ?_); (with_reducible refine gate_dst (N := 17) rfl ?_); (try (refine gate_guard (by rfl) ?_; dsimp only)); refine goesL_ (some 17) rfl rfl Try.func46 (by kernel_rfl) rfl #[.float .f64 b] rfl (by (try simp only [List.map_toArray, List.map_cons, List.map_nil]); first | done | rfl) ?_; (with_reducible refine (impl_finite.calls b _ hb_).mono ?_); rintro e w2 ⟨rfl, ⟨n_, rfl⟩⟩; rw [h2]; refine ⟨_, rfl, ?_⟩) | ((with_reducible refine gate_callee (f := 46) rfl ?_); (with_reducible refine gate_dst (N := 23) rfl ?_); (try (refine gate_guard (by rfl) ?_; dsimp only)); refine goesL_ (some 23) rfl rfl Try.func46 (by kernel_rfl) rfl #[.float .f64 c] rfl (by (try simp only [List.map_toArray, List.map_cons, List.map_nil]); first | done | rfl) ?_; (with_reducible refine (impl_finite.calls c _ hc).mono ?_); rintro e w2 ⟨rfl, ⟨n_, rfl⟩⟩; rw [h3]; refine ⟨_, rfl, ?_⟩))
    apply bodyPost_ret
    · simp [results, Try.f23, go_sem] <;> rfl
    · rfl
    · have hq : qok a b c d = false := by simp [qok, h1, h2, h3]
      refine ⟨_, _, by first | (rw [hq]; done) | (rw [hq]; rfl), ?_, ?_⟩
      · unfold qval; first | (rw [hq]; done) | (rw [hq]; rfl)
      · repeat (first | (with_reducible first | exact Below.refl _ _ | apply below_alloc | apply pw_below_drewN | apply below_drew1) | (refine below_set ?_ (by omega)) | exact Below.refl _ _)
  | true =>
  cases h4 : fin (cls .f64 d) with
  | false =>
    go_enter Try.func23, Try.ntmps23
    go_wp2_with (first | ((with_reducible refine gate_callee (f := 46) rfl ?_); (with_reducible refine gate_dst (N := 12) rfl ?_); (try (refine gate_guard (by rfl) ?_; dsimp only)); refine goesL_ (some 12) rfl rfl Try.func46 (by kernel_rfl) rfl #[.float .f64 a] rfl (by (try simp only [List.map_toArray, List.map_cons, List.map_nil]); first | done | rfl) ?_; (with_reducible refine (impl_finite.calls a _ ha).mono ?_); rintro e w2 ⟨rfl, ⟨n_, rfl⟩⟩; rw [h1]; refine ⟨_, rfl, ?_⟩) | ((with_reducible refine gate_callee (f := 46) rfl ?_); (with_reducible refine gate_dst (N := 17) rfl ?_); (try (refine gate_guard (by rfl) ?_; dsimp only)); refine goesL_ (some 17) rfl rfl Try.func46 (by kernel_rfl) rfl #[.float .f64 b] rfl (by (try simp only [List.map_toArray, List.map_cons, List.map_nil]); first | done | rfl) ?_; (with_reducible refine (impl_finite.calls b _ hb_).mono ?_); rintro e w2 ⟨rfl, ⟨n_, rfl⟩⟩; rw [h2]; refine ⟨_, rfl, ?_⟩) | ((with_reducible refine gate_callee (f := 46) rfl ?_); (with_reducible refine gate_dst (N := 23) rfl ?_); (try (refine gate_guard (by rfl) ?_; dsimp only)); refine goesL_ (some 23) rfl rfl Try.func46 (by kernel_rfl) rfl #[.float .f64 c] rfl (by (try simp only [List.map_toArray, List.map_cons, List.map_nil]); first | done | rfl) ?_; (with_reducible refine (impl_finite.calls c _ hc).mono ?_); rintro e w2 ⟨rfl, ⟨n_, rfl⟩⟩; rw [h3]; refine ⟨_, rfl, ?_⟩) | ((with_reducible refine gate_callee (f := 46) rfl ?_); (with_reducible refine gate_dst (N := 29) rfl ?_); (try (refine gate_guard (by rfl) ?_; dsimp only)); refine goesL_ (some 29) rfl rfl Try.func46 (by kernel_rfl) rfl #[.float .f64 d] rfl (by (try simp only [List.map_toArray, List.map_cons, List.map_nil]); first | done | rfl) ?_; (with_reducible refine (impl_finite.calls d _ hd).mono ?_); rintro e w2 ⟨rfl, ⟨n_, rfl⟩⟩; rw [h4]; refine ⟨_, rfl, ?_⟩))
    apply bodyPost_ret
    · simp [results, Try.f23, go_sem] <;> rfl
    · rfl
    · have hq : qok a b c d = false := by simp [qok, h1, h2, h3, h4]
      refine ⟨_, _, by first | (rw [hq]; done) | (rw [hq]; rfl), ?_, ?_⟩
      · unfold qval; first | (rw [hq]; done) | (rw [hq]; rfl)
      · repeat (first | (with_reducible first | exact Below.refl _ _ | apply below_alloc | apply pw_below_drewN | apply below_drew1) | (refine below_set ?_ (by omega)) | exact Below.refl _ _)
  | true =>
  cases z1 : (FloatKind.f64.format.order c 0 == some .eq) with
  | false =>
    cases hb : qbig c d with
    | true =>
      have hbs : (FloatKind.f64.format.order (c % 9223372036854775808) (d % 9223372036854775808) == some .gt || FloatKind.f64.format.order (c % 9223372036854775808) (d % 9223372036854775808) == some .eq) = true := hb
      go_enter Try.func23, Try.ntmps23
      go_wp2_with (first | ((with_reducible refine gate_callee (f := 46) rfl ?_); (with_reducible refine gate_dst (N := 12) rfl ?_); (try (refine gate_guard (by rfl) ?_; dsimp only)); refine goesL_ (some 12) rfl rfl Try.func46 (by kernel_rfl) rfl #[.float .f64 a] rfl (by (try simp only [List.map_toArray, List.map_cons, List.map_nil]); first | done | rfl) ?_; (with_reducible refine (impl_finite.calls a _ ha).mono ?_); rintro e w2 ⟨rfl, ⟨n_, rfl⟩⟩; rw [h1]; refine ⟨_, rfl, ?_⟩) | ((with_reducible refine gate_callee (f := 46) rfl ?_); (with_reducible refine gate_dst (N := 17) rfl ?_); (try (refine gate_guard (by rfl) ?_; dsimp only)); refine goesL_ (some 17) rfl rfl Try.func46 (by kernel_rfl) rfl #[.float .f64 b] rfl (by (try simp only [List.map_toArray, List.map_cons, List.map_nil]); first | done | rfl) ?_; (with_reducible refine (impl_finite.calls b _ hb_).mono ?_); rintro e w2 ⟨rfl, ⟨n_, rfl⟩⟩; rw [h2]; refine ⟨_, rfl, ?_⟩) | ((with_reducible refine gate_callee (f := 46) rfl ?_); (with_reducible refine gate_dst (N := 23) rfl ?_); (try (refine gate_guard (by rfl) ?_; dsimp only)); refine goesL_ (some 23) rfl rfl Try.func46 (by kernel_rfl) rfl #[.float .f64 c] rfl (by (try simp only [List.map_toArray, List.map_cons, List.map_nil]); first | done | rfl) ?_; (with_reducible refine (impl_finite.calls c _ hc).mono ?_); rintro e w2 ⟨rfl, ⟨n_, rfl⟩⟩; rw [h3]; refine ⟨_, rfl, ?_⟩) | ((with_reducible refine gate_callee (f := 46) rfl ?_); (with_reducible refine gate_dst (N := 29) rfl ?_); (try (refine gate_guard (by rfl) ?_; dsimp only)); refine goesL_ (some 29) rfl rfl Try.func46 (by kernel_rfl) rfl #[.float .f64 d] rfl (by (try simp only [List.map_toArray, List.map_cons, List.map_nil]); first | done | rfl) ?_; (with_reducible refine (impl_finite.calls d _ hd).mono ?_); rintro e w2 ⟨rfl, ⟨n_, rfl⟩⟩; rw [h4]; refine ⟨_, rfl, ?_⟩))
      go_quiet ((go_at_call 47; first | exact quiet_more (math_Abs.calls c _ hc) | exact quiet_more (math_Abs.calls d _ hd) | exact Calls.quiet_of_same (math_Abs.calls c _ hc) | exact Calls.quiet_of_same (math_Abs.calls d _ hd)))
      go_wp2_with (first | ((with_reducible refine gate_dst (N := 54) rfl ?_); refine arith_event rfl rfl rfl rfl rfl ?_; intro r54 q54 hr54) | ((with_reducible refine gate_dst (N := 60) rfl ?_); refine arith_event rfl rfl rfl rfl rfl ?_; intro r60 q60 hr60) | ((with_reducible refine gate_dst (N := 61) rfl ?_); refine arith_event rfl rfl rfl rfl rfl ?_; intro r61 q61 hr61) | ((with_reducible refine gate_dst (N := 67) rfl ?_); refine arith_event rfl rfl rfl rfl rfl ?_; intro r67 q67 hr67) | ((with_reducible refine gate_dst (N := 68) rfl ?_); refine arith_event rfl rfl rfl rfl rfl ?_; intro r68 q68 hr68) | ((with_reducible refine gate_dst (N := 70) rfl ?_); refine arith_event rfl rfl rfl rfl rfl ?_; intro r70 q70 hr70) | ((with_reducible refine gate_dst (N := 76) rfl ?_); refine arith_event rfl rfl rfl rfl rfl ?_; intro r76 q76 hr76) | ((with_reducible refine gate_dst (N := 77) rfl ?_); refine arith_event rfl rfl rfl rfl rfl ?_; intro r77 q77 hr77) | ((with_reducible refine gate_dst (N := 79) rfl ?_); refine arith_event rfl rfl rfl rfl rfl ?_; intro r79 q79 hr79) | ((with_reducible refine gate_dst (N := 85) rfl ?_); refine arith_event rfl rfl rfl rfl rfl ?_; intro r85 q85 hr85) | ((with_reducible refine gate_dst (N := 91) rfl ?_); refine arith_event rfl rfl rfl rfl rfl ?_; intro r91 q91 hr91) | ((with_reducible refine gate_dst (N := 92) rfl ?_); refine arith_event rfl rfl rfl rfl rfl ?_; intro r92 q92 hr92) | ((with_reducible refine gate_dst (N := 96) rfl ?_); refine arith_event rfl rfl rfl rfl rfl ?_; intro r96 q96 hr96) | ((with_reducible refine gate_dst (N := 99) rfl ?_); refine arith_event rfl rfl rfl rfl rfl ?_; intro r99 q99 hr99) | ((with_reducible refine gate_dst (N := 101) rfl ?_); refine arith_event rfl rfl rfl rfl rfl ?_; intro r101 q101 hr101) | ((with_reducible refine gate_dst (N := 105) rfl ?_); refine arith_event rfl rfl rfl rfl rfl ?_; intro r105 q105 hr105) | ((with_reducible refine gate_dst (N := 108) rfl ?_); refine arith_event rfl rfl rfl rfl rfl ?_; intro r108 q108 hr108) | ((with_reducible refine gate_dst (N := 110) rfl ?_); refine arith_event rfl rfl rfl rfl rfl ?_; intro r110 q110 hr110))
      apply bodyPost_ret
      · simp [results, Try.f23, go_sem] <;> rfl
      · rfl
      · have hq : qok a b c d = true := by simp [qok, h1, h2, h3, h4, z1]
        refine ⟨_, _, by first | (rw [hq]; done) | (rw [hq]; rfl), ?_, ?_⟩
        · unfold qval; rw [hq, hb]; simp only [quot, if_true, Bool.false_eq_true, if_false, fA, fS, fM, fQ]; rw [hr70.out, hr79.out, hr68.out, hr77.out, hr67.out, hr76.out, hr61.out, hr60.out, hr54.out]
        · repeat (first | (with_reducible first | exact Below.refl _ _ | apply below_alloc | apply pw_below_drewN | apply below_drew1) | (refine below_set ?_ (by omega)) | exact Below.refl _ _)
    | false =>
      have hbs : (FloatKind.f64.format.order (c % 9223372036854775808) (d % 9223372036854775808) == some .gt || FloatKind.f64.format.order (c % 9223372036854775808) (d % 9223372036854775808) == some .eq) = false := hb
      go_enter Try.func23, Try.ntmps23
      go_wp2_with (first | ((with_reducible refine gate_callee (f := 46) rfl ?_); (with_reducible refine gate_dst (N := 12) rfl ?_); (try (refine gate_guard (by rfl) ?_; dsimp only)); refine goesL_ (some 12) rfl rfl Try.func46 (by kernel_rfl) rfl #[.float .f64 a] rfl (by (try simp only [List.map_toArray, List.map_cons, List.map_nil]); first | done | rfl) ?_; (with_reducible refine (impl_finite.calls a _ ha).mono ?_); rintro e w2 ⟨rfl, ⟨n_, rfl⟩⟩; rw [h1]; refine ⟨_, rfl, ?_⟩) | ((with_reducible refine gate_callee (f := 46) rfl ?_); (with_reducible refine gate_dst (N := 17) rfl ?_); (try (refine gate_guard (by rfl) ?_; dsimp only)); refine goesL_ (some 17) rfl rfl Try.func46 (by kernel_rfl) rfl #[.float .f64 b] rfl (by (try simp only [List.map_toArray, List.map_cons, List.map_nil]); first | done | rfl) ?_; (with_reducible refine (impl_finite.calls b _ hb_).mono ?_); rintro e w2 ⟨rfl, ⟨n_, rfl⟩⟩; rw [h2]; refine ⟨_, rfl, ?_⟩) | ((with_reducible refine gate_callee (f := 46) rfl ?_); (with_reducible refine gate_dst (N := 23) rfl ?_); (try (refine gate_guard (by rfl) ?_; dsimp only)); refine goesL_ (some 23) rfl rfl Try.func46 (by kernel_rfl) rfl #[.float .f64 c] rfl (by (try simp only [List.map_toArray, List.map_cons, List.map_nil]); first | done | rfl) ?_; (with_reducible refine (impl_finite.calls c _ hc).mono ?_); rintro e w2 ⟨rfl, ⟨n_, rfl⟩⟩; rw [h3]; refine ⟨_, rfl, ?_⟩) | ((with_reducible refine gate_callee (f := 46) rfl ?_); (with_reducible refine gate_dst (N := 29) rfl ?_); (try (refine gate_guard (by rfl) ?_; dsimp only)); refine goesL_ (some 29) rfl rfl Try.func46 (by kernel_rfl) rfl #[.float .f64 d] rfl (by (try simp only [List.map_toArray, List.map_cons, List.map_nil]); first | done | rfl) ?_; (with_reducible refine (impl_finite.calls d _ hd).mono ?_); rintro e w2 ⟨rfl, ⟨n_, rfl⟩⟩; rw [h4]; refine ⟨_, rfl, ?_⟩))
      go_quiet ((go_at_call 47; first | exact quiet_more (math_Abs.calls c _ hc) | exact quiet_more (math_Abs.calls d _ hd) | exact Calls.quiet_of_same (math_Abs.calls c _ hc) | exact Calls.quiet_of_same (math_Abs.calls d _ hd)))
      go_wp2_with (first | ((with_reducible refine gate_dst (N := 54) rfl ?_); refine arith_event rfl rfl rfl rfl rfl ?_; intro r54 q54 hr54) | ((with_reducible refine gate_dst (N := 60) rfl ?_); refine arith_event rfl rfl rfl rfl rfl ?_; intro r60 q60 hr60) | ((with_reducible refine gate_dst (N := 61) rfl ?_); refine arith_event rfl rfl rfl rfl rfl ?_; intro r61 q61 hr61) | ((with_reducible refine gate_dst (N := 67) rfl ?_); refine arith_event rfl rfl rfl rfl rfl ?_; intro r67 q67 hr67) | ((with_reducible refine gate_dst (N := 68) rfl ?_); refine arith_event rfl rfl rfl rfl rfl ?_; intro r68 q68 hr68) | ((with_reducible refine gate_dst (N := 70) rfl ?_); refine arith_event rfl rfl rfl rfl rfl ?_; intro r70 q70 hr70) | ((with_reducible refine gate_dst (N := 76) rfl ?_); refine arith_event rfl rfl rfl rfl rfl ?_; intro r76 q76 hr76) | ((with_reducible refine gate_dst (N := 77) rfl ?_); refine arith_event rfl rfl rfl rfl rfl ?_; intro r77 q77 hr77) | ((with_reducible refine gate_dst (N := 79) rfl ?_); refine arith_event rfl rfl rfl rfl rfl ?_; intro r79 q79 hr79) | ((with_reducible refine gate_dst (N := 85) rfl ?_); refine arith_event rfl rfl rfl rfl rfl ?_; intro r85 q85 hr85) | ((with_reducible refine gate_dst (N := 91) rfl ?_); refine arith_event rfl rfl rfl rfl rfl ?_; intro r91 q91 hr91) | ((with_reducible refine gate_dst (N := 92) rfl ?_); refine arith_event rfl rfl rfl rfl rfl ?_; intro r92 q92 hr92) | ((with_reducible refine gate_dst (N := 96) rfl ?_); refine arith_event rfl rfl rfl rfl rfl ?_; intro r96 q96 hr96) | ((with_reducible refine gate_dst (N := 99) rfl ?_); refine arith_event rfl rfl rfl rfl rfl ?_; intro r99 q99 hr99) | ((with_reducible refine gate_dst (N := 101) rfl ?_); refine arith_event rfl rfl rfl rfl rfl ?_; intro r101 q101 hr101) | ((with_reducible refine gate_dst (N := 105) rfl ?_); refine arith_event rfl rfl rfl rfl rfl ?_; intro r105 q105 hr105) | ((with_reducible refine gate_dst (N := 108) rfl ?_); refine arith_event rfl rfl rfl rfl rfl ?_; intro r108 q108 hr108) | ((with_reducible refine gate_dst (N := 110) rfl ?_); refine arith_event rfl rfl rfl rfl rfl ?_; intro r110 q110 hr110))
      apply bodyPost_ret
      · simp [results, Try.f23, go_sem] <;> rfl
      · rfl
      · have hq : qok a b c d = true := by simp [qok, h1, h2, h3, h4, z1]
        refine ⟨_, _, by first | (rw [hq]; done) | (rw [hq]; rfl), ?_, ?_⟩
        · unfold qval; rw [hq, hb]; simp only [quot, if_true, Bool.false_eq_true, if_false, fA, fS, fM, fQ]; rw [hr101.out, hr110.out, hr99.out, hr108.out, hr96.out, hr105.out, hr92.out, hr91.out, hr85.out]
        · repeat (first | (with_reducible first | exact Below.refl _ _ | apply below_alloc | apply pw_below_drewN | apply below_drew1) | (refine below_set ?_ (by omega)) | exact Below.refl _ _)
  | true =>
  cases z2 : (FloatKind.f64.format.order d 0 == some .eq) with
  | false =>
    cases hb : qbig c d with
    | true =>
      have hbs : (FloatKind.f64.format.order (c % 9223372036854775808) (d % 9223372036854775808) == some .gt || FloatKind.f64.format.order (c % 9223372036854775808) (d % 9223372036854775808) == some .eq) = true := hb
      go_enter Try.func23, Try.ntmps23
      go_wp2_with (first | ((with_reducible refine gate_callee (f := 46) rfl ?_); (with_reducible refine gate_dst (N := 12) rfl ?_); (try (refine gate_guard (by rfl) ?_; dsimp only)); refine goesL_ (some 12) rfl rfl Try.func46 (by kernel_rfl) rfl #[.float .f64 a] rfl (by (try simp only [List.map_toArray, List.map_cons, List.map_nil]); first | done | rfl) ?_; (with_reducible refine (impl_finite.calls a _ ha).mono ?_); rintro e w2 ⟨rfl, ⟨n_, rfl⟩⟩; rw [h1]; refine ⟨_, rfl, ?_⟩) | ((with_reducible refine gate_callee (f := 46) rfl ?_); (with_reducible refine gate_dst (N := 17) rfl ?_); (try (refine gate_guard (by rfl) ?_; dsimp only)); refine goesL_ (some 17) rfl rfl Try.func46 (by kernel_rfl) rfl #[.float .f64 b] rfl (by (try simp only [List.map_toArray, List.map_cons, List.map_nil]); first | done | rfl) ?_; (with_reducible refine (impl_finite.calls b _ hb_).mono ?_); rintro e w2 ⟨rfl, ⟨n_, rfl⟩⟩; rw [h2]; refine ⟨_, rfl, ?_⟩) | ((with_reducible refine gate_callee (f := 46) rfl ?_); (with_reducible refine gate_dst (N := 23) rfl ?_); (try (refine gate_guard (by rfl) ?_; dsimp only)); refine goesL_ (some 23) rfl rfl Try.func46 (by kernel_rfl) rfl #[.float .f64 c] rfl (by (try simp only [List.map_toArray, List.map_cons, List.map_nil]); first | done | rfl) ?_; (with_reducible refine (impl_finite.calls c _ hc).mono ?_); rintro e w2 ⟨rfl, ⟨n_, rfl⟩⟩; rw [h3]; refine ⟨_, rfl, ?_⟩) | ((with_reducible refine gate_callee (f := 46) rfl ?_); (with_reducible refine gate_dst (N := 29) rfl ?_); (try (refine gate_guard (by rfl) ?_; dsimp only)); refine goesL_ (some 29) rfl rfl Try.func46 (by kernel_rfl) rfl #[.float .f64 d] rfl (by (try simp only [List.map_toArray, List.map_cons, List.map_nil]); first | done | rfl) ?_; (with_reducible refine (impl_finite.calls d _ hd).mono ?_); rintro e w2 ⟨rfl, ⟨n_, rfl⟩⟩; rw [h4]; refine ⟨_, rfl, ?_⟩))
      go_quiet ((go_at_call 47; first | exact quiet_more (math_Abs.calls c _ hc) | exact quiet_more (math_Abs.calls d _ hd) | exact Calls.quiet_of_same (math_Abs.calls c _ hc) | exact Calls.quiet_of_same (math_Abs.calls d _ hd)))
      go_wp2_with (first | ((with_reducible refine gate_dst (N := 54) rfl ?_); refine arith_event rfl rfl rfl rfl rfl ?_; intro r54 q54 hr54) | ((with_reducible refine gate_dst (N := 60) rfl ?_); refine arith_event rfl rfl rfl rfl rfl ?_; intro r60 q60 hr60) | ((with_reducible refine gate_dst (N := 61) rfl ?_); refine arith_event rfl rfl rfl rfl rfl ?_; intro r61 q61 hr61) | ((with_reducible refine gate_dst (N := 67) rfl ?_); refine arith_event rfl rfl rfl rfl rfl ?_; intro r67 q67 hr67) | ((with_reducible refine gate_dst (N := 68) rfl ?_); refine arith_event rfl rfl rfl rfl rfl ?_; intro r68 q68 hr68) | ((with_reducible refine gate_dst (N := 70) rfl ?_); refine arith_event rfl rfl rfl rfl rfl ?_; intro r70 q70 hr70) | ((with_reducible refine gate_dst (N := 76) rfl ?_); refine arith_event rfl rfl rfl rfl rfl ?_; intro r76 q76 hr76) | ((with_reducible refine gate_dst (N := 77) rfl ?_); refine arith_event rfl rfl rfl rfl rfl ?_; intro r77 q77 hr77) | ((with_reducible refine gate_dst (N := 79) rfl ?_); refine arith_event rfl rfl rfl rfl rfl ?_; intro r79 q79 hr79) | ((with_reducible refine gate_dst (N := 85) rfl ?_); refine arith_event rfl rfl rfl rfl rfl ?_; intro r85 q85 hr85) | ((with_reducible refine gate_dst (N := 91) rfl ?_); refine arith_event rfl rfl rfl rfl rfl ?_; intro r91 q91 hr91) | ((with_reducible refine gate_dst (N := 92) rfl ?_); refine arith_event rfl rfl rfl rfl rfl ?_; intro r92 q92 hr92) | ((with_reducible refine gate_dst (N := 96) rfl ?_); refine arith_event rfl rfl rfl rfl rfl ?_; intro r96 q96 hr96) | ((with_reducible refine gate_dst (N := 99) rfl ?_); refine arith_event rfl rfl rfl rfl rfl ?_; intro r99 q99 hr99) | ((with_reducible refine gate_dst (N := 101) rfl ?_); refine arith_event rfl rfl rfl rfl rfl ?_; intro r101 q101 hr101) | ((with_reducible refine gate_dst (N := 105) rfl ?_); refine arith_event rfl rfl rfl rfl rfl ?_; intro r105 q105 hr105) | ((with_reducible refine gate_dst (N := 108) rfl ?_); refine arith_event rfl rfl rfl rfl rfl ?_; intro r108 q108 hr108) | ((with_reducible refine gate_dst (N := 110) rfl ?_); refine arith_event rfl rfl rfl rfl rfl ?_; intro r110 q110 hr110))
      apply bodyPost_ret
      · simp [results, Try.f23, go_sem] <;> rfl
      · rfl
      · have hq : qok a b c d = true := by simp [qok, h1, h2, h3, h4, z1, z2]
        refine ⟨_, _, by first | (rw [hq]; done) | (rw [hq]; rfl), ?_, ?_⟩
        · unfold qval; rw [hq, hb]; simp only [quot, if_true, Bool.false_eq_true, if_false, fA, fS, fM, fQ]; rw [hr70.out, hr79.out, hr68.out, hr77.out, hr67.out, hr76.out, hr61.out, hr60.out, hr54.out]
        · repeat (first | (with_reducible first | exact Below.refl _ _ | apply below_alloc | apply pw_below_drewN | apply below_drew1) | (refine below_set ?_ (by omega)) | exact Below.refl _ _)
    | false =>
      have hbs : (FloatKind.f64.format.order (c % 9223372036854775808) (d % 9223372036854775808) == some .gt || FloatKind.f64.format.order (c % 9223372036854775808) (d % 9223372036854775808) == some .eq) = false := hb
      go_enter Try.func23, Try.ntmps23
      go_wp2_with (first | ((with_reducible refine gate_callee (f := 46) rfl ?_); (with_reducible refine gate_dst (N := 12) rfl ?_); (try (refine gate_guard (by rfl) ?_; dsimp only)); refine goesL_ (some 12) rfl rfl Try.func46 (by kernel_rfl) rfl #[.float .f64 a] rfl (by (try simp only [List.map_toArray, List.map_cons, List.map_nil]); first | done | rfl) ?_; (with_reducible refine (impl_finite.calls a _ ha).mono ?_); rintro e w2 ⟨rfl, ⟨n_, rfl⟩⟩; rw [h1]; refine ⟨_, rfl, ?_⟩) | ((with_reducible refine gate_callee (f := 46) rfl ?_); (with_reducible refine gate_dst (N := 17) rfl ?_); (try (refine gate_guard (by rfl) ?_; dsimp only)); refine goesL_ (some 17) rfl rfl Try.func46 (by kernel_rfl) rfl #[.float .f64 b] rfl (by (try simp only [List.map_toArray, List.map_cons, List.map_nil]); first | done | rfl) ?_; (with_reducible refine (impl_finite.calls b _ hb_).mono ?_); rintro e w2 ⟨rfl, ⟨n_, rfl⟩⟩; rw [h2]; refine ⟨_, rfl, ?_⟩) | ((with_reducible refine gate_callee (f := 46) rfl ?_); (with_reducible refine gate_dst (N := 23) rfl ?_); (try (refine gate_guard (by rfl) ?_; dsimp only)); refine goesL_ (some 23) rfl rfl Try.func46 (by kernel_rfl) rfl #[.float .f64 c] rfl (by (try simp only [List.map_toArray, List.map_cons, List.map_nil]); first | done | rfl) ?_; (with_reducible refine (impl_finite.calls c _ hc).mono ?_); rintro e w2 ⟨rfl, ⟨n_, rfl⟩⟩; rw [h3]; refine ⟨_, rfl, ?_⟩) | ((with_reducible refine gate_callee (f := 46) rfl ?_); (with_reducible refine gate_dst (N := 29) rfl ?_); (try (refine gate_guard (by rfl) ?_; dsimp only)); refine goesL_ (some 29) rfl rfl Try.func46 (by kernel_rfl) rfl #[.float .f64 d] rfl (by (try simp only [List.map_toArray, List.map_cons, List.map_nil]); first | done | rfl) ?_; (with_reducible refine (impl_finite.calls d _ hd).mono ?_); rintro e w2 ⟨rfl, ⟨n_, rfl⟩⟩; rw [h4]; refine ⟨_, rfl, ?_⟩))
      go_quiet ((go_at_call 47; first | exact quiet_more (math_Abs.calls c _ hc) | exact quiet_more (math_Abs.calls d _ hd) | exact Calls.quiet_of_same (math_Abs.calls c _ hc) | exact Calls.quiet_of_same (math_Abs.calls d _ hd)))
      go_wp2_with (first | ((with_reducible refine gate_dst (N := 54) rfl ?_); refine arith_event rfl rfl rfl rfl rfl ?_; intro r54 q54 hr54) | ((with_reducible refine gate_dst (N := 60) rfl ?_); refine arith_event rfl rfl rfl rfl rfl ?_; intro r60 q60 hr60) | ((with_reducible refine gate_dst (N := 61) rfl ?_); refine arith_event rfl rfl rfl rfl rfl ?_; intro r61 q61 hr61) | ((with_reducible refine gate_dst (N := 67) rfl ?_); refine arith_event rfl rfl rfl rfl rfl ?_; intro r67 q67 hr67) | ((with_reducible refine gate_dst (N := 68) rfl ?_); refine arith_event rfl rfl rfl rfl rfl ?_; intro r68 q68 hr68) | ((with_reducible refine gate_dst (N := 70) rfl ?_); refine arith_event rfl rfl rfl rfl rfl ?_; intro r70 q70 hr70) | ((with_reducible refine gate_dst (N := 76) rfl ?_); refine arith_event rfl rfl rfl rfl rfl ?_; intro r76 q76 hr76) | ((with_reducible refine gate_dst (N := 77) rfl ?_); refine arith_event rfl rfl rfl rfl rfl ?_; intro r77 q77 hr77) | ((with_reducible refine gate_dst (N := 79) rfl ?_); refine arith_event rfl rfl rfl rfl rfl ?_; intro r79 q79 hr79) | ((with_reducible refine gate_dst (N := 85) rfl ?_); refine arith_event rfl rfl rfl rfl rfl ?_; intro r85 q85 hr85) | ((with_reducible refine gate_dst (N := 91) rfl ?_); refine arith_event rfl rfl rfl rfl rfl ?_; intro r91 q91 hr91) | ((with_reducible refine gate_dst (N := 92) rfl ?_); refine arith_event rfl rfl rfl rfl rfl ?_; intro r92 q92 hr92) | ((with_reducible refine gate_dst (N := 96) rfl ?_); refine arith_event rfl rfl rfl rfl rfl ?_; intro r96 q96 hr96) | ((with_reducible refine gate_dst (N := 99) rfl ?_); refine arith_event rfl rfl rfl rfl rfl ?_; intro r99 q99 hr99) | ((with_reducible refine gate_dst (N := 101) rfl ?_); refine arith_event rfl rfl rfl rfl rfl ?_; intro r101 q101 hr101) | ((with_reducible refine gate_dst (N := 105) rfl ?_); refine arith_event rfl rfl rfl rfl rfl ?_; intro r105 q105 hr105) | ((with_reducible refine gate_dst (N := 108) rfl ?_); refine arith_event rfl rfl rfl rfl rfl ?_; intro r108 q108 hr108) | ((with_reducible refine gate_dst (N := 110) rfl ?_); refine arith_event rfl rfl rfl rfl rfl ?_; intro r110 q110 hr110))
      apply bodyPost_ret
      · simp [results, Try.f23, go_sem] <;> rfl
      · rfl
      · have hq : qok a b c d = true := by simp [qok, h1, h2, h3, h4, z1, z2]
        refine ⟨_, _, by first | (rw [hq]; done) | (rw [hq]; rfl), ?_, ?_⟩
        · unfold qval; rw [hq, hb]; simp only [quot, if_true, Bool.false_eq_true, if_false, fA, fS, fM, fQ]; rw [hr101.out, hr110.out, hr99.out, hr108.out, hr96.out, hr105.out, hr92.out, hr91.out, hr85.out]
        · repeat (first | (with_reducible first | exact Below.refl _ _ | apply below_alloc | apply pw_below_drewN | apply below_drew1) | (refine below_set ?_ (by omega)) | exact Below.refl _ _)
  | true =>
    go_enter Try.func23, Try.ntmps23
    go_wp2_with (first | ((with_reducible refine gate_callee (f := 46) rfl ?_); (with_reducible refine gate_dst (N := 12) rfl ?_); (try (refine gate_guard (by rfl) ?_; dsimp only)); refine goesL_ (some 12) rfl rfl Try.func46 (by kernel_rfl) rfl #[.float .f64 a] rfl (by (try simp only [List.map_toArray, List.map_cons, List.map_nil]); first | done | rfl) ?_; (with_reducible refine (impl_finite.calls a _ ha).mono ?_); rintro e w2 ⟨rfl, ⟨n_, rfl⟩⟩; rw [h1]; refine ⟨_, rfl, ?_⟩) | ((with_reducible refine gate_callee (f := 46) rfl ?_); (with_reducible refine gate_dst (N := 17) rfl ?_); (try (refine gate_guard (by rfl) ?_; dsimp only)); refine goesL_ (some 17) rfl rfl Try.func46 (by kernel_rfl) rfl #[.float .f64 b] rfl (by (try simp only [List.map_toArray, List.map_cons, List.map_nil]); first | done | rfl) ?_; (with_reducible refine (impl_finite.calls b _ hb_).mono ?_); rintro e w2 ⟨rfl, ⟨n_, rfl⟩⟩; rw [h2]; refine ⟨_, rfl, ?_⟩) | ((with_reducible refine gate_callee (f := 46) rfl ?_); (with_reducible refine gate_dst (N := 23) rfl ?_); (try (refine gate_guard (by rfl) ?_; dsimp only)); refine goesL_ (some 23) rfl rfl Try.func46 (by kernel_rfl) rfl #[.float .f64 c] rfl (by (try simp only [List.map_toArray, List.map_cons, List.map_nil]); first | done | rfl) ?_; (with_reducible refine (impl_finite.calls c _ hc).mono ?_); rintro e w2 ⟨rfl, ⟨n_, rfl⟩⟩; rw [h3]; refine ⟨_, rfl, ?_⟩) | ((with_reducible refine gate_callee (f := 46) rfl ?_); (with_reducible refine gate_dst (N := 29) rfl ?_); (try (refine gate_guard (by rfl) ?_; dsimp only)); refine goesL_ (some 29) rfl rfl Try.func46 (by kernel_rfl) rfl #[.float .f64 d] rfl (by (try simp only [List.map_toArray, List.map_cons, List.map_nil]); first | done | rfl) ?_; (with_reducible refine (impl_finite.calls d _ hd).mono ?_); rintro e w2 ⟨rfl, ⟨n_, rfl⟩⟩; rw [h4]; refine ⟨_, rfl, ?_⟩))
    apply bodyPost_ret
    · simp [results, Try.f23, go_sem] <;> rfl
    · rfl
    · have hq : qok a b c d = false := by simp [qok, h1, h2, h3, h4, z1, z2]
      refine ⟨_, _, by first | (rw [hq]; done) | (rw [hq]; rfl), ?_, ?_⟩
      · unfold qval; first | (rw [hq]; done) | (rw [hq]; rfl)
      · repeat (first | (with_reducible first | exact Below.refl _ _ | apply below_alloc | apply pw_below_drewN | apply below_drew1) | (refine below_set ?_ (by omega)) | exact Below.refl _ _)
end Go.Proofs.Ytigbdfhlpnabdaa.Hand
