/- Contracts of the functions over floats, walked. -/
import Derived.Test.YtigbdfhlpnabdaaProg
import Derived.Below
import Derived.Deep.Draws
import Derived.Deep.AppendLies
import Derived.Maps.AppendAt
import Derived.OwnWalk
import Derived.Laws.BytesArg
import Derived.Laws.MakeOwn
import Derived.Laws.OwnMore
import Derived.Deep.OwnRows
import Derived.Tactics
import Derived.Lib.ConvBytes
import Derived.Laws.Slices
import Derived.WalkKit
import Derived.KernelRfl
import Derived.RowKit3
import Derived.Deep.LoopGhost
import Derived.Deep.QuietTactic
import Derived.BigQuiet
import Derived.WideLaws
import Derived.Deep.DeepCutAuto
import Derived.Deep.CutBlock
import Derived.Deep.RegionHeld3
import Derived.Laws.Rows
import Derived.Lib.AppendStr
import Derived.ArgAppend
import Derived.Laws.IdiomCopy
import Derived.OrdersHeld
import Derived.Laws.BitsLemmas
import Derived.RowKit
import Derived.Test.YtigbdfhlpnabdaaWWords
import Derived.Test.YtigbdfhlpnabdaaWLast
import Derived.Test.YtigbdfhlpnabdaaWTab
import Derived.Test.YtigbdfhlpnabdaaWFour
import Derived.Test.YtigbdfhlpnabdaaWQPut
import Derived.Test.YtigbdfhlpnabdaaWApart
import Derived.Test.YtigbdfhlpnabdaaWArr
import Derived.Test.YtigbdfhlpnabdaaWZeros
import Derived.Test.YtigbdfhlpnabdaaWFoot
import Derived.Test.YtigbdfhlpnabdaaWKept
import Derived.Test.YtigbdfhlpnabdaaWShare
import Derived.Test.YtigbdfhlpnabdaaWN
import Derived.Test.YtigbdfhlpnabdaaWFootNe
import Derived.Test.YtigbdfhlpnabdaaWAt
import Derived.Test.YtigbdfhlpnabdaaWEqStruct
import Derived.Test.YtigbdfhlpnabdaaWRepsOne
import Derived.Test.YtigbdfhlpnabdaaWInv
import Derived.Test.YtigbdfhlpnabdaaWInvWords
import Derived.Test.YtigbdfhlpnabdaaWGuard
import Derived.Test.YtigbdfhlpnabdaaWNEv
import Derived.Test.YtigbdfhlpnabdaaWMore
import Derived.Outline
import Derived.Lib.Hide
import Derived.Laws.CopyOwn
import Derived.Deep.RegionLaw
import Derived.IntWalk
import Derived.Test.YtigbdfhlpnabdaaFloat
import Derived.Test.YtigbdfhlpnabdaaHandA
namespace Go.Proofs.Ytigbdfhlpnabdaa.Hand
open Go Go.RowKit Go.Proofs.YtigbdfhlpnabdaaW.PrintWords Go.Proofs.YtigbdfhlpnabdaaW.PrintLast Go.Proofs.YtigbdfhlpnabdaaW.PrintMore Go.Proofs.Ytigbdfhlpnabdaa.Fl
attribute [local go_sem] run_fadd run_fsub run_fmul run_fquo run_widen run_store_float
set_option linter.unusedVariables false
set_option linter.unusedSimpArgs false
open Go.Proofs.Ytigbdfhlpnabdaa.Hand
attribute [local go_sem] unary_fneg
set_option maxHeartbeats 8000000 in
set_option maxRecDepth 100000 in
theorem spec_QuotWide.calls (a b c d : Nat) (w : World) : Calls Try.prog 21 #[.agg #[.float .f64 a, .float .f64 b], .agg #[.float .f64 c, .float .f64 d]] w fun e w' =>
    ∃ x y, e = .returned (.tuple #[.agg #[.float .f64 x, .float .f64 y], .bool (qok a b c d)]) ∧ (cls .f64 x, cls .f64 y) = qval a b c d ∧ Below w.heap.size w w' := by
  cases h1 : fin (cls .f64 a) with
  | false =>
    go_enter Try.func21, Try.ntmps21
    go_wp2_with (first | ((with_reducible refine gate_callee (f := 44) rfl ?_); (with_reducible refine gate_dst (N := 22) rfl ?_); (try (refine gate_guard (by rfl) ?_; dsimp only)); refine goesL_ (some 22) rfl rfl Try.func44 (by kernel_rfl) rfl #[.float .f64 a] rfl (by (try simp only [List.map_toArray, List.map_cons, List.map_nil]); first | done | rfl) ?_; (with_reducible refine (spec_l14Finite.calls a _).mono ?_); rintro e w2 ⟨rfl, ⟨n_, rfl⟩⟩; rw [h1]; refine ⟨_, rfl, ?_⟩))
    apply bodyPost_ret
    · simp [results, Try.f21, go_sem] <;> rfl
    · rfl
    · have hq : qok a b c d = false := by simp [qok, h1]
      refine ⟨_, _, by first | (rw [hq]; done) | (rw [hq]; rfl), ?_, ?_⟩
      · unfold qval; first | (rw [hq]; done) | (rw [hq]; rfl)
      · repeat (first | (with_reducible first | exact Below.refl _ _ | apply below_alloc | apply pw_below_drewN | apply below_drew1) | (refine below_set ?_ (by omega)) | exact Below.refl _ _)
  | true =>
  cases h2 : fin (cls .f64 b) with
  | false =>
    go_enter Try.func21, Try.ntmps21
    go_wp2_with (first | ((with_reducible refine gate_callee (f := 44) rfl ?_); (with_reducible refine gate_dst (N := 22) rfl ?_); (try (refine gate_guard (by rfl) ?_; dsimp only)); refine goesL_ (some 22) rfl rfl Try.func44 (by kernel_rfl) rfl #[.float .f64 a] rfl (by (try simp only [List.map_toArray, List.map_cons, List.map_nil]); first | done | rfl) ?_; (with_reducible refine (spec_l14Finite.calls a _).mono ?_); rintro e w2 ⟨rfl, ⟨n_, rfl⟩⟩; rw [h1]; refine ⟨_, rfl, ?_⟩) | ((with_reducible refine gate_callee (f := 44) rfl ?_); (with_reducible refine gate_dst (N := 27) rfl ?_); (try (refine gate_guard (by rfl) ?_; dsimp only)); refine goesL_ (some 27) rfl rfl Try.func44 (by kernel_rfl) rfl #[.float .f64 b] rfl (by (try simp only [List.map_toArray, List.map_cons, List.map_nil]); first | done | rfl) ?_; (with_reducible refine (spec_l14Finite.calls b _).mono ?_); rintro e w2 ⟨rfl, ⟨n_, rfl⟩⟩; rw [h2]; refine ⟨_, rfl, ?_⟩))
    apply bodyPost_ret
    · simp [results, Try.f21, go_sem] <;> rfl
    · rfl
    · have hq : qok a b c d = false := by simp [qok, h1, h2]
      refine ⟨_, _, by first | (rw [hq]; done) | (rw [hq]; rfl), ?_, ?_⟩
      · unfold qval; first | (rw [hq]; done) | (rw [hq]; rfl)
      · repeat (first | (with_reducible first | exact Below.refl _ _ | apply below_alloc | apply pw_below_drewN | apply below_drew1) | (refine below_set ?_ (by omega)) | exact Below.refl _ _)
  | true =>
  cases h3 : fin (cls .f64 c) with
  | false =>
    go_enter Try.func21, Try.ntmps21
    go_wp2_with (first | ((with_reducible refine gate_callee (f := 44) rfl ?_); (with_reducible refine gate_dst (N := 22) rfl ?_); (try (refine gate_guard (by rfl) ?_; dsimp only)); refine goesL_ (some 22) rfl rfl Try.func44 (by kernel_rfl) rfl #[.float .f64 a] rfl (by (try simp only [List.map_toArray, List.map_cons, List.map_nil]); first | done | rfl) ?_; (with_reducible refine (spec_l14Finite.calls a _).mono ?_); rintro e w2 ⟨rfl, ⟨n_, rfl⟩⟩; rw [h1]; refine ⟨_, rfl, ?_⟩) | ((with_reducible refine gate_callee (f := 44) rfl ?_); (with_reducible refine gate_dst (N := 27) rfl ?_); (try (refine gate_guard (by rfl) ?_; dsimp only)); refine goesL_ (some 27) rfl rfl Try.func44 (by kernel_rfl) rfl #[.float .f64 b] rfl (by (try simp only [List.map_toArray, List.map_cons, List.map_nil]); first | done | rfl) ?_; (with_reducible refine (spec_l14Finite.calls b _).mono ?_); rintro e w2 ⟨rfl, ⟨n_, rfl⟩⟩; rw [h2]; refine ⟨_, rfl, ?_⟩) | ((with_reducible refine gate_callee (f := 44) rfl ?_); (with_reducible refine gate_dst (N := 33) rfl ?_); (try (refine gate_guard (by rfl) ?_; dsimp only)); refine goesL_ (some 33) rfl rfl Try.func44 (by kernel_rfl) rfl #[.float .f64 c] rfl (by (try simp only [List.map_toArray, List.map_cons, List.map_nil]); first | done | rfl) ?_; (with_reducible refine (spec_l14Finite.calls c _).mono ?_); rintro e w2 ⟨rfl, ⟨n_, rfl⟩⟩; rw [h3]; refine ⟨_, rfl, ?_⟩))
    apply bodyPost_ret
    · simp [results, Try.f21, go_sem] <;> rfl
    · rfl
    · have hq : qok a b c d = false := by simp [qok, h1, h2, h3]
      refine ⟨_, _, by first | (rw [hq]; done) | (rw [hq]; rfl), ?_, ?_⟩
      · unfold qval; first | (rw [hq]; done) | (rw [hq]; rfl)
      · repeat (first | (with_reducible first | exact Below.refl _ _ | apply below_alloc | apply pw_below_drewN | apply below_drew1) | (refine below_set ?_ (by omega)) | exact Below.refl _ _)
  | true =>
  cases h4 : fin (cls .f64 d) with
  | false =>
    go_enter Try.func21, Try.ntmps21
    go_wp2_with (first | ((with_reducible refine gate_callee (f := 44) rfl ?_); (with_reducible refine gate_dst (N := 22) rfl ?_); (try (refine gate_guard (by rfl) ?_; dsimp only)); refine goesL_ (some 22) rfl rfl Try.func44 (by kernel_rfl) rfl #[.float .f64 a] rfl (by (try simp only [List.map_toArray, List.map_cons, List.map_nil]); first | done | rfl) ?_; (with_reducible refine (spec_l14Finite.calls a _).mono ?_); rintro e w2 ⟨rfl, ⟨n_, rfl⟩⟩; rw [h1]; refine ⟨_, rfl, ?_⟩) | ((with_reducible refine gate_callee (f := 44) rfl ?_); (with_reducible refine gate_dst (N := 27) rfl ?_); (try (refine gate_guard (by rfl) ?_; dsimp only)); refine goesL_ (some 27) rfl rfl Try.func44 (by kernel_rfl) rfl #[.float .f64 b] rfl (by (try simp only [List.map_toArray, List.map_cons, List.map_nil]); first | done | rfl) ?_; (with_reducible refine (spec_l14Finite.calls b _).mono ?_); rintro e w2 ⟨rfl, ⟨n_, rfl⟩⟩; rw [h2]; refine ⟨_, rfl, ?_⟩) | ((with_reducible refine gate_callee (f := 44) rfl ?_); (with_reducible refine gate_dst (N := 33) rfl ?_); (try (refine gate_guard (by rfl) ?_; dsimp only)); refine goesL_ (some 33) rfl rfl Try.func44 (by kernel_rfl) rfl #[.float .f64 c] rfl (by (try simp only [List.map_toArray, List.map_cons, List.map_nil]); first | done | rfl) ?_; (with_reducible refine (spec_l14Finite.calls c _).mono ?_); rintro e w2 ⟨rfl, ⟨n_, rfl⟩⟩; rw [h3]; refine ⟨_, rfl, ?_⟩) | ((with_reducible refine gate_callee (f := 44) rfl ?_); (with_reducible refine gate_dst (N := 39) rfl ?_); (try (refine gate_guard (by rfl) ?_; dsimp only)); refine goesL_ (some 39) rfl rfl Try.func44 (by kernel_rfl) rfl #[.float .f64 d] rfl (by (try simp only [List.map_toArray, List.map_cons, List.map_nil]); first | done | rfl) ?_; (with_reducible refine (spec_l14Finite.calls d _).mono ?_); rintro e w2 ⟨rfl, ⟨n_, rfl⟩⟩; rw [h4]; refine ⟨_, rfl, ?_⟩))
    apply bodyPost_ret
    · simp [results, Try.f21, go_sem] <;> rfl
    · rfl
    · have hq : qok a b c d = false := by simp [qok, h1, h2, h3, h4]
      refine ⟨_, _, by first | (rw [hq]; done) | (rw [hq]; rfl), ?_, ?_⟩
      · unfold qval; first | (rw [hq]; done) | (rw [hq]; rfl)
      · repeat (first | (with_reducible first | exact Below.refl _ _ | apply below_alloc | apply pw_below_drewN | apply below_drew1) | (refine below_set ?_ (by omega)) | exact Below.refl _ _)
  | true =>
  cases z1 : (FloatKind.f64.format.order c 0 == some .eq) with
  | false =>
    cases hb : qbig c d with
    | true =>
      have hbs : (FloatKind.f64.format.order (fsize c) (fsize d) == some .gt || FloatKind.f64.format.order (fsize c) (fsize d) == some .eq) = true := by rw [size_abs h3 h4]; exact hb
      go_enter Try.func21, Try.ntmps21
      go_wp2_with (first | ((with_reducible refine gate_callee (f := 44) rfl ?_); (with_reducible refine gate_dst (N := 22) rfl ?_); (try (refine gate_guard (by rfl) ?_; dsimp only)); refine goesL_ (some 22) rfl rfl Try.func44 (by kernel_rfl) rfl #[.float .f64 a] rfl (by (try simp only [List.map_toArray, List.map_cons, List.map_nil]); first | done | rfl) ?_; (with_reducible refine (spec_l14Finite.calls a _).mono ?_); rintro e w2 ⟨rfl, ⟨n_, rfl⟩⟩; rw [h1]; refine ⟨_, rfl, ?_⟩) | ((with_reducible refine gate_callee (f := 44) rfl ?_); (with_reducible refine gate_dst (N := 27) rfl ?_); (try (refine gate_guard (by rfl) ?_; dsimp only)); refine goesL_ (some 27) rfl rfl Try.func44 (by kernel_rfl) rfl #[.float .f64 b] rfl (by (try simp only [List.map_toArray, List.map_cons, List.map_nil]); first | done | rfl) ?_; (with_reducible refine (spec_l14Finite.calls b _).mono ?_); rintro e w2 ⟨rfl, ⟨n_, rfl⟩⟩; rw [h2]; refine ⟨_, rfl, ?_⟩) | ((with_reducible refine gate_callee (f := 44) rfl ?_); (with_reducible refine gate_dst (N := 33) rfl ?_); (try (refine gate_guard (by rfl) ?_; dsimp only)); refine goesL_ (some 33) rfl rfl Try.func44 (by kernel_rfl) rfl #[.float .f64 c] rfl (by (try simp only [List.map_toArray, List.map_cons, List.map_nil]); first | done | rfl) ?_; (with_reducible refine (spec_l14Finite.calls c _).mono ?_); rintro e w2 ⟨rfl, ⟨n_, rfl⟩⟩; rw [h3]; refine ⟨_, rfl, ?_⟩) | ((with_reducible refine gate_callee (f := 44) rfl ?_); (with_reducible refine gate_dst (N := 39) rfl ?_); (try (refine gate_guard (by rfl) ?_; dsimp only)); refine goesL_ (some 39) rfl rfl Try.func44 (by kernel_rfl) rfl #[.float .f64 d] rfl (by (try simp only [List.map_toArray, List.map_cons, List.map_nil]); first | done | rfl) ?_; (with_reducible refine (spec_l14Finite.calls d _).mono ?_); rintro e w2 ⟨rfl, ⟨n_, rfl⟩⟩; rw [h4]; refine ⟨_, rfl, ?_⟩))
      go_quiet ((go_at_call 45; first | exact quiet_more (spec_l14Size.calls c _) | exact quiet_more (spec_l14Size.calls d _) | exact Calls.quiet_of_same (spec_l14Size.calls c _) | exact Calls.quiet_of_same (spec_l14Size.calls d _)))
      go_wp2_with (first | ((with_reducible refine gate_dst (N := 64) rfl ?_); refine arith_event rfl rfl rfl rfl rfl ?_; intro r64 q64 hr64) | ((with_reducible refine gate_dst (N := 68) rfl ?_); refine arith_event rfl rfl rfl rfl rfl ?_; intro r68 q68 hr68) | ((with_reducible refine gate_dst (N := 72) rfl ?_); refine arith_event rfl rfl rfl rfl rfl ?_; intro r72 q72 hr72) | ((with_reducible refine gate_dst (N := 76) rfl ?_); refine arith_event rfl rfl rfl rfl rfl ?_; intro r76 q76 hr76) | ((with_reducible refine gate_dst (N := 80) rfl ?_); refine arith_event rfl rfl rfl rfl rfl ?_; intro r80 q80 hr80) | ((with_reducible refine gate_dst (N := 84) rfl ?_); refine arith_event rfl rfl rfl rfl rfl ?_; intro r84 q84 hr84) | ((with_reducible refine gate_dst (N := 88) rfl ?_); refine arith_event rfl rfl rfl rfl rfl ?_; intro r88 q88 hr88) | ((with_reducible refine gate_dst (N := 91) rfl ?_); refine arith_event rfl rfl rfl rfl rfl ?_; intro r91 q91 hr91) | ((with_reducible refine gate_dst (N := 94) rfl ?_); refine arith_event rfl rfl rfl rfl rfl ?_; intro r94 q94 hr94) | ((with_reducible refine gate_dst (N := 100) rfl ?_); refine arith_event rfl rfl rfl rfl rfl ?_; intro r100 q100 hr100) | ((with_reducible refine gate_dst (N := 104) rfl ?_); refine arith_event rfl rfl rfl rfl rfl ?_; intro r104 q104 hr104) | ((with_reducible refine gate_dst (N := 108) rfl ?_); refine arith_event rfl rfl rfl rfl rfl ?_; intro r108 q108 hr108) | ((with_reducible refine gate_dst (N := 112) rfl ?_); refine arith_event rfl rfl rfl rfl rfl ?_; intro r112 q112 hr112) | ((with_reducible refine gate_dst (N := 116) rfl ?_); refine arith_event rfl rfl rfl rfl rfl ?_; intro r116 q116 hr116) | ((with_reducible refine gate_dst (N := 120) rfl ?_); refine arith_event rfl rfl rfl rfl rfl ?_; intro r120 q120 hr120) | ((with_reducible refine gate_dst (N := 124) rfl ?_); refine arith_event rfl rfl rfl rfl rfl ?_; intro r124 q124 hr124) | ((with_reducible refine gate_dst (N := 127) rfl ?_); refine arith_event rfl rfl rfl rfl rfl ?_; intro r127 q127 hr127) | ((with_reducible refine gate_dst (N := 130) rfl ?_); refine arith_event rfl rfl rfl rfl rfl ?_; intro r130 q130 hr130))
      apply bodyPost_ret
      · simp [results, Try.f21, go_sem] <;> rfl
      · rfl
      · have hq : qok a b c d = true := by simp [qok, h1, h2, h3, h4, z1]
        refine ⟨_, _, by first | (rw [hq]; done) | (rw [hq]; rfl), ?_, ?_⟩
        · unfold qval; rw [hq, hb]; simp only [quot, if_true, Bool.false_eq_true, if_false, fA, fS, fM, fQ]; rw [hr91.out, hr94.out, hr84.out, hr88.out, hr76.out, hr80.out, hr72.out, hr68.out, hr64.out]
        · repeat (first | (with_reducible first | exact Below.refl _ _ | apply below_alloc | apply pw_below_drewN | apply below_drew1) | (refine below_set ?_ (by omega)) | exact Below.refl _ _)
    | false =>
      have hbs : (FloatKind.f64.format.order (fsize c) (fsize d) == some .gt || FloatKind.f64.format.order (fsize c) (fsize d) == some .eq) = false := by rw [size_abs h3 h4]; exact hb
      go_enter Try.func21, Try.ntmps21
      go_wp2_with (first | ((with_reducible refine gate_callee (f := 44) rfl ?_); (with_reducible refine gate_dst (N := 22) rfl ?_); (try (refine gate_guard (by rfl) ?_; dsimp only)); refine goesL_ (some 22) rfl rfl Try.func44 (by kernel_rfl) rfl #[.float .f64 a] rfl (by (try simp only [List.map_toArray, List.map_cons, List.map_nil]); first | done | rfl) ?_; (with_reducible refine (spec_l14Finite.calls a _).mono ?_); rintro e w2 ⟨rfl, ⟨n_, rfl⟩⟩; rw [h1]; refine ⟨_, rfl, ?_⟩) | ((with_reducible refine gate_callee (f := 44) rfl ?_); (with_reducible refine gate_dst (N := 27) rfl ?_); (try (refine gate_guard (by rfl) ?_; dsimp only)); refine goesL_ (some 27) rfl rfl Try.func44 (by kernel_rfl) rfl #[.float .f64 b] rfl (by (try simp only [List.map_toArray, List.map_cons, List.map_nil]); first | done | rfl) ?_; (with_reducible refine (spec_l14Finite.calls b _).mono ?_); rintro e w2 ⟨rfl, ⟨n_, rfl⟩⟩; rw [h2]; refine ⟨_, rfl, ?_⟩) | ((with_reducible refine gate_callee (f := 44) rfl ?_); (with_reducible refine gate_dst (N := 33) rfl ?_); (try (refine gate_guard (by rfl) ?_; dsimp only)); refine goesL_ (some 33) rfl rfl Try.func44 (by kernel_rfl) rfl #[.float .f64 c] rfl (by (try simp only [List.map_toArray, List.map_cons, List.map_nil]); first | done | rfl) ?_; (with_reducible refine (spec_l14Finite.calls c _).mono ?_); rintro e w2 ⟨rfl, ⟨n_, rfl⟩⟩; rw [h3]; refine ⟨_, rfl, ?_⟩) | ((with_reducible refine gate_callee (f := 44) rfl ?_); (with_reducible refine gate_dst (N := 39) rfl ?_); (try (refine gate_guard (by rfl) ?_; dsimp only)); refine goesL_ (some 39) rfl rfl Try.func44 (by kernel_rfl) rfl #[.float .f64 d] rfl (by (try simp only [List.map_toArray, List.map_cons, List.map_nil]); first | done | rfl) ?_; (with_reducible refine (spec_l14Finite.calls d _).mono ?_); rintro e w2 ⟨rfl, ⟨n_, rfl⟩⟩; rw [h4]; refine ⟨_, rfl, ?_⟩))
      go_quiet ((go_at_call 45; first | exact quiet_more (spec_l14Size.calls c _) | exact quiet_more (spec_l14Size.calls d _) | exact Calls.quiet_of_same (spec_l14Size.calls c _) | exact Calls.quiet_of_same (spec_l14Size.calls d _)))
      go_wp2_with (first | ((with_reducible refine gate_dst (N := 64) rfl ?_); refine arith_event rfl rfl rfl rfl rfl ?_; intro r64 q64 hr64) | ((with_reducible refine gate_dst (N := 68) rfl ?_); refine arith_event rfl rfl rfl rfl rfl ?_; intro r68 q68 hr68) | ((with_reducible refine gate_dst (N := 72) rfl ?_); refine arith_event rfl rfl rfl rfl rfl ?_; intro r72 q72 hr72) | ((with_reducible refine gate_dst (N := 76) rfl ?_); refine arith_event rfl rfl rfl rfl rfl ?_; intro r76 q76 hr76) | ((with_reducible refine gate_dst (N := 80) rfl ?_); refine arith_event rfl rfl rfl rfl rfl ?_; intro r80 q80 hr80) | ((with_reducible refine gate_dst (N := 84) rfl ?_); refine arith_event rfl rfl rfl rfl rfl ?_; intro r84 q84 hr84) | ((with_reducible refine gate_dst (N := 88) rfl ?_); refine arith_event rfl rfl rfl rfl rfl ?_; intro r88 q88 hr88) | ((with_reducible refine gate_dst (N := 91) rfl ?_); refine arith_event rfl rfl rfl rfl rfl ?_; intro r91 q91 hr91) | ((with_reducible refine gate_dst (N := 94) rfl ?_); refine arith_event rfl rfl rfl rfl rfl ?_; intro r94 q94 hr94) | ((with_reducible refine gate_dst (N := 100) rfl ?_); refine arith_event rfl rfl rfl rfl rfl ?_; intro r100 q100 hr100) | ((with_reducible refine gate_dst (N := 104) rfl ?_); refine arith_event rfl rfl rfl rfl rfl ?_; intro r104 q104 hr104) | ((with_reducible refine gate_dst (N := 108) rfl ?_); refine arith_event rfl rfl rfl rfl rfl ?_; intro r108 q108 hr108) | ((with_reducible refine gate_dst (N := 112) rfl ?_); refine arith_event rfl rfl rfl rfl rfl ?_; intro r112 q112 hr112) | ((with_reducible refine gate_dst (N := 116) rfl ?_); refine arith_event rfl rfl rfl rfl rfl ?_; intro r116 q116 hr116) | ((with_reducible refine gate_dst (N := 120) rfl ?_); refine arith_event rfl rfl rfl rfl rfl ?_; intro r120 q120 hr120) | ((with_reducible refine gate_dst (N := 124) rfl ?_); refine arith_event rfl rfl rfl rfl rfl ?_; intro r124 q124 hr124) | ((with_reducible refine gate_dst (N := 127) rfl ?_); refine arith_event rfl rfl rfl rfl rfl ?_; intro r127 q127 hr127) | ((with_reducible refine gate_dst (N := 130) rfl ?_); refine arith_event rfl rfl rfl rfl rfl ?_; intro r130 q130 hr130))
      apply bodyPost_ret
      · simp [results, Try.f21, go_sem] <;> rfl
      · rfl
      · have hq : qok a b c d = true := by simp [qok, h1, h2, h3, h4, z1]
        refine ⟨_, _, by first | (rw [hq]; done) | (rw [hq]; rfl), ?_, ?_⟩
        · unfold qval; rw [hq, hb]; simp only [quot, if_true, Bool.false_eq_true, if_false, fA, fS, fM, fQ]; rw [hr127.out, hr130.out, hr120.out, hr124.out, hr112.out, hr116.out, hr108.out, hr104.out, hr100.out]
        · repeat (first | (with_reducible first | exact Below.refl _ _ | apply below_alloc | apply pw_below_drewN | apply below_drew1) | (refine below_set ?_ (by omega)) | exact Below.refl _ _)
  | true =>
  cases z2 : (FloatKind.f64.format.order d 0 == some .eq) with
  | false =>
    cases hb : qbig c d with
    | true =>
      have hbs : (FloatKind.f64.format.order (fsize c) (fsize d) == some .gt || FloatKind.f64.format.order (fsize c) (fsize d) == some .eq) = true := by rw [size_abs h3 h4]; exact hb
      go_enter Try.func21, Try.ntmps21
      go_wp2_with (first | ((with_reducible refine gate_callee (f := 44) rfl ?_); (with_reducible refine gate_dst (N := 22) rfl ?_); (try (refine gate_guard (by rfl) ?_; dsimp only)); refine goesL_ (some 22) rfl rfl Try.func44 (by kernel_rfl) rfl #[.float .f64 a] rfl (by (try simp only [List.map_toArray, List.map_cons, List.map_nil]); first | done | rfl) ?_; (with_reducible refine (spec_l14Finite.calls a _).mono ?_); rintro e w2 ⟨rfl, ⟨n_, rfl⟩⟩; rw [h1]; refine ⟨_, rfl, ?_⟩) | ((with_reducible refine gate_callee (f := 44) rfl ?_); (with_reducible refine gate_dst (N := 27) rfl ?_); (try (refine gate_guard (by rfl) ?_; dsimp only)); refine goesL_ (some 27) rfl rfl Try.func44 (by kernel_rfl) rfl #[.float .f64 b] rfl (by (try simp only [List.map_toArray, List.map_cons, List.map_nil]); first | done | rfl) ?_; (with_reducible refine (spec_l14Finite.calls b _).mono ?_); rintro e w2 ⟨rfl, ⟨n_, rfl⟩⟩; rw [h2]; refine ⟨_, rfl, ?_⟩) | ((with_reducible refine gate_callee (f := 44) rfl ?_); (with_reducible refine gate_dst (N := 33) rfl ?_); (try (refine gate_guard (by rfl) ?_; dsimp only)); refine goesL_ (some 33) rfl rfl Try.func44 (by kernel_rfl) rfl #[.float .f64 c] rfl (by (try simp only [List.map_toArray, List.map_cons, List.map_nil]); first | done | rfl) ?_; (with_reducible refine (spec_l14Finite.calls c _).mono ?_); rintro e w2 ⟨rfl, ⟨n_, rfl⟩⟩; rw [h3]; refine ⟨_, rfl, ?_⟩) | ((with_reducible refine gate_callee (f := 44) rfl ?_); (with_reducible refine gate_dst (N := 39) rfl ?_); (try (refine gate_guard (by rfl) ?_; dsimp only)); refine goesL_ (some 39) rfl rfl Try.func44 (by kernel_rfl) rfl #[.float .f64 d] rfl (by (try simp only [List.map_toArray, List.map_cons, List.map_nil]); first | done | rfl) ?_; (with_reducible refine (spec_l14Finite.calls d _).mono ?_); rintro e w2 ⟨rfl, ⟨n_, rfl⟩⟩; rw [h4]; refine ⟨_, rfl, ?_⟩))
      go_quiet ((go_at_call 45; first | exact quiet_more (spec_l14Size.calls c _) | exact quiet_more (spec_l14Size.calls d _) | exact Calls.quiet_of_same (spec_l14Size.calls c _) | exact Calls.quiet_of_same (spec_l14Size.calls d _)))
      go_wp2_with (first | ((with_reducible refine gate_dst (N := 64) rfl ?_); refine arith_event rfl rfl rfl rfl rfl ?_; intro r64 q64 hr64) | ((with_reducible refine gate_dst (N := 68) rfl ?_); refine arith_event rfl rfl rfl rfl rfl ?_; intro r68 q68 hr68) | ((with_reducible refine gate_dst (N := 72) rfl ?_); refine arith_event rfl rfl rfl rfl rfl ?_; intro r72 q72 hr72) | ((with_reducible refine gate_dst (N := 76) rfl ?_); refine arith_event rfl rfl rfl rfl rfl ?_; intro r76 q76 hr76) | ((with_reducible refine gate_dst (N := 80) rfl ?_); refine arith_event rfl rfl rfl rfl rfl ?_; intro r80 q80 hr80) | ((with_reducible refine gate_dst (N := 84) rfl ?_); refine arith_event rfl rfl rfl rfl rfl ?_; intro r84 q84 hr84) | ((with_reducible refine gate_dst (N := 88) rfl ?_); refine arith_event rfl rfl rfl rfl rfl ?_; intro r88 q88 hr88) | ((with_reducible refine gate_dst (N := 91) rfl ?_); refine arith_event rfl rfl rfl rfl rfl ?_; intro r91 q91 hr91) | ((with_reducible refine gate_dst (N := 94) rfl ?_); refine arith_event rfl rfl rfl rfl rfl ?_; intro r94 q94 hr94) | ((with_reducible refine gate_dst (N := 100) rfl ?_); refine arith_event rfl rfl rfl rfl rfl ?_; intro r100 q100 hr100) | ((with_reducible refine gate_dst (N := 104) rfl ?_); refine arith_event rfl rfl rfl rfl rfl ?_; intro r104 q104 hr104) | ((with_reducible refine gate_dst (N := 108) rfl ?_); refine arith_event rfl rfl rfl rfl rfl ?_; intro r108 q108 hr108) | ((with_reducible refine gate_dst (N := 112) rfl ?_); refine arith_event rfl rfl rfl rfl rfl ?_; intro r112 q112 hr112) | ((with_reducible refine gate_dst (N := 116) rfl ?_); refine arith_event rfl rfl rfl rfl rfl ?_; intro r116 q116 hr116) | ((with_reducible refine gate_dst (N := 120) rfl ?_); refine arith_event rfl rfl rfl rfl rfl ?_; intro r120 q120 hr120) | ((with_reducible refine gate_dst (N := 124) rfl ?_); refine arith_event rfl rfl rfl rfl rfl ?_; intro r124 q124 hr124) | ((with_reducible refine gate_dst (N := 127) rfl ?_); refine arith_event rfl rfl rfl rfl rfl ?_; intro r127 q127 hr127) | ((with_reducible refine gate_dst (N := 130) rfl ?_); refine arith_event rfl rfl rfl rfl rfl ?_; intro r130 q130 hr130))
      apply bodyPost_ret
      · simp [results, Try.f21, go_sem] <;> rfl
      · rfl
      · have hq : qok a b c d = true := by simp [qok, h1, h2, h3, h4, z1, z2]
        refine ⟨_, _, by first | (rw [hq]; done) | (rw [hq]; rfl), ?_, ?_⟩
        · unfold qval; rw [hq, hb]; simp only [quot, if_true, Bool.false_eq_true, if_false, fA, fS, fM, fQ]; rw [hr91.out, hr94.out, hr84.out, hr88.out, hr76.out, hr80.out, hr72.out, hr68.out, hr64.out]
        · repeat (first | (with_reducible first | exact Below.refl _ _ | apply below_alloc | apply pw_below_drewN | apply below_drew1) | (refine below_set ?_ (by omega)) | exact Below.refl _ _)
    | false =>
      have hbs : (FloatKind.f64.format.order (fsize c) (fsize d) == some .gt || FloatKind.f64.format.order (fsize c) (fsize d) == some .eq) = false := by rw [size_abs h3 h4]; exact hb
      go_enter Try.func21, Try.ntmps21
      go_wp2_with (first | ((with_reducible refine gate_callee (f := 44) rfl ?_); (with_reducible refine gate_dst (N := 22) rfl ?_); (try (refine gate_guard (by rfl) ?_; dsimp only)); refine goesL_ (some 22) rfl rfl Try.func44 (by kernel_rfl) rfl #[.float .f64 a] rfl (by (try simp only [List.map_toArray, List.map_cons, List.map_nil]); first | done | rfl) ?_; (with_reducible refine (spec_l14Finite.calls a _).mono ?_); rintro e w2 ⟨rfl, ⟨n_, rfl⟩⟩; rw [h1]; refine ⟨_, rfl, ?_⟩) | ((with_reducible refine gate_callee (f := 44) rfl ?_); (with_reducible refine gate_dst (N := 27) rfl ?_); (try (refine gate_guard (by rfl) ?_; dsimp only)); refine goesL_ (some 27) rfl rfl Try.func44 (by kernel_rfl) rfl #[.float .f64 b] rfl (by (try simp only [List.map_toArray, List.map_cons, List.map_nil]); first | done | rfl) ?_; (with_reducible refine (spec_l14Finite.calls b _).mono ?_); rintro e w2 ⟨rfl, ⟨n_, rfl⟩⟩; rw [h2]; refine ⟨_, rfl, ?_⟩) | ((with_reducible refine gate_callee (f := 44) rfl ?_); (with_reducible refine gate_dst (N := 33) rfl ?_); (try (refine gate_guard (by rfl) ?_; dsimp only)); refine goesL_ (some 33) rfl rfl Try.func44 (by kernel_rfl) rfl #[.float .f64 c] rfl (by (try simp only [List.map_toArray, List.map_cons, List.map_nil]); first | done | rfl) ?_; (with_reducible refine (spec_l14Finite.calls c _).mono ?_); rintro e w2 ⟨rfl, ⟨n_, rfl⟩⟩; rw [h3]; refine ⟨_, rfl, ?_⟩) | ((with_reducible refine gate_callee (f := 44) rfl ?_); (with_reducible refine gate_dst (N := 39) rfl ?_); (try (refine gate_guard (by rfl) ?_; dsimp only)); refine goesL_ (some 39) rfl rfl Try.func44 (by kernel_rfl) rfl #[.float .f64 d] rfl (by (try simp only [List.map_toArray, List.map_cons, List.map_nil]); first | done | rfl) ?_; (with_reducible refine (spec_l14Finite.calls d _).mono ?_); rintro e w2 ⟨rfl, ⟨n_, rfl⟩⟩; rw [h4]; refine ⟨_, rfl, ?_⟩))
      go_quiet ((go_at_call 45; first | exact quiet_more (spec_l14Size.calls c _) | exact quiet_more (spec_l14Size.calls d _) | exact Calls.quiet_of_same (spec_l14Size.calls c _) | exact Calls.quiet_of_same (spec_l14Size.calls d _)))
      go_wp2_with (first | ((with_reducible refine gate_dst (N := 64) rfl ?_); refine arith_event rfl rfl rfl rfl rfl ?_; intro r64 q64 hr64) | ((with_reducible refine gate_dst (N := 68) rfl ?_); refine arith_event rfl rfl rfl rfl rfl ?_; intro r68 q68 hr68) | ((with_reducible refine gate_dst (N := 72) rfl ?_); refine arith_event rfl rfl rfl rfl rfl ?_; intro r72 q72 hr72) | ((with_reducible refine gate_dst (N := 76) rfl ?_); refine arith_event rfl rfl rfl rfl rfl ?_; intro r76 q76 hr76) | ((with_reducible refine gate_dst (N := 80) rfl ?_); refine arith_event rfl rfl rfl rfl rfl ?_; intro r80 q80 hr80) | ((with_reducible refine gate_dst (N := 84) rfl ?_); refine arith_event rfl rfl rfl rfl rfl ?_; intro r84 q84 hr84) | ((with_reducible refine gate_dst (N := 88) rfl ?_); refine arith_event rfl rfl rfl rfl rfl ?_; intro r88 q88 hr88) | ((with_reducible refine gate_dst (N := 91) rfl ?_); refine arith_event rfl rfl rfl rfl rfl ?_; intro r91 q91 hr91) | ((with_reducible refine gate_dst (N := 94) rfl ?_); refine arith_event rfl rfl rfl rfl rfl ?_; intro r94 q94 hr94) | ((with_reducible refine gate_dst (N := 100) rfl ?_); refine arith_event rfl rfl rfl rfl rfl ?_; intro r100 q100 hr100) | ((with_reducible refine gate_dst (N := 104) rfl ?_); refine arith_event rfl rfl rfl rfl rfl ?_; intro r104 q104 hr104) | ((with_reducible refine gate_dst (N := 108) rfl ?_); refine arith_event rfl rfl rfl rfl rfl ?_; intro r108 q108 hr108) | ((with_reducible refine gate_dst (N := 112) rfl ?_); refine arith_event rfl rfl rfl rfl rfl ?_; intro r112 q112 hr112) | ((with_reducible refine gate_dst (N := 116) rfl ?_); refine arith_event rfl rfl rfl rfl rfl ?_; intro r116 q116 hr116) | ((with_reducible refine gate_dst (N := 120) rfl ?_); refine arith_event rfl rfl rfl rfl rfl ?_; intro r120 q120 hr120) | ((with_reducible refine gate_dst (N := 124) rfl ?_); refine arith_event rfl rfl rfl rfl rfl ?_; intro r124 q124 hr124) | ((with_reducible refine gate_dst (N := 127) rfl ?_); refine arith_event rfl rfl rfl rfl rfl ?_; intro r127 q127 hr127) | ((with_reducible refine gate_dst (N := 130) rfl ?_); refine arith_event rfl rfl rfl rfl rfl ?_; intro r130 q130 hr130))
      apply bodyPost_ret
      · simp [results, Try.f21, go_sem] <;> rfl
      · rfl
      · have hq : qok a b c d = true := by simp [qok, h1, h2, h3, h4, z1, z2]
        refine ⟨_, _, by first | (rw [hq]; done) | (rw [hq]; rfl), ?_, ?_⟩
        · unfold qval; rw [hq, hb]; simp only [quot, if_true, Bool.false_eq_true, if_false, fA, fS, fM, fQ]; rw [hr127.out, hr130.out, hr120.out, hr124.out, hr112.out, hr116.out, hr108.out, hr104.out, hr100.out]
        · repeat (first | (with_reducible first | exact Below.refl _ _ | apply below_alloc | apply pw_below_drewN | apply below_drew1) | (refine below_set ?_ (by omega)) | exact Below.refl _ _)
  | true =>
    go_enter Try.func21, Try.ntmps21
    go_wp2_with (first | ((with_reducible refine gate_callee (f := 44) rfl ?_); (with_reducible refine gate_dst (N := 22) rfl ?_); (try (refine gate_guard (by rfl) ?_; dsimp only)); refine goesL_ (some 22) rfl rfl Try.func44 (by kernel_rfl) rfl #[.float .f64 a] rfl (by (try simp only [List.map_toArray, List.map_cons, List.map_nil]); first | done | rfl) ?_; (with_reducible refine (spec_l14Finite.calls a _).mono ?_); rintro e w2 ⟨rfl, ⟨n_, rfl⟩⟩; rw [h1]; refine ⟨_, rfl, ?_⟩) | ((with_reducible refine gate_callee (f := 44) rfl ?_); (with_reducible refine gate_dst (N := 27) rfl ?_); (try (refine gate_guard (by rfl) ?_; dsimp only)); refine goesL_ (some 27) rfl rfl Try.func44 (by kernel_rfl) rfl #[.float .f64 b] rfl (by (try simp only [List.map_toArray, List.map_cons, List.map_nil]); first | done | rfl) ?_; (with_reducible refine (spec_l14Finite.calls b _).mono ?_); rintro e w2 ⟨rfl, ⟨n_, rfl⟩⟩; rw [h2]; refine ⟨_, rfl, ?_⟩) | ((with_reducible refine gate_callee (f := 44) rfl ?_); (with_reducible refine gate_dst (N := 33) rfl ?_); (try (refine gate_guard (by rfl) ?_; dsimp only)); refine goesL_ (some 33) rfl rfl Try.func44 (by kernel_rfl) rfl #[.float .f64 c] rfl (by (try simp only [List.map_toArray, List.map_cons, List.map_nil]); first | done | rfl) ?_; (with_reducible refine (spec_l14Finite.calls c _).mono ?_); rintro e w2 ⟨rfl, ⟨n_, rfl⟩⟩; rw [h3]; refine ⟨_, rfl, ?_⟩) | ((with_reducible refine gate_callee (f := 44) rfl ?_); (with_reducible refine gate_dst (N := 39) rfl ?_); (try (refine gate_guard (by rfl) ?_; dsimp only)); refine goesL_ (some 39) rfl rfl Try.func44 (by kernel_rfl) rfl #[.float .f64 d] rfl (by (try simp only [List.map_toArray, List.map_cons, List.map_nil]); first | done | rfl) ?_; (with_reducible refine (spec_l14Finite.calls d _).mono ?_); rintro e w2 ⟨rfl, ⟨n_, rfl⟩⟩; rw [h4]; refine ⟨_, rfl, ?_⟩))
    apply bodyPost_ret
    · simp [results, Try.f21, go_sem] <;> rfl
    · rfl
    · have hq : qok a b c d = false := by simp [qok, h1, h2, h3, h4, z1, z2]
      refine ⟨_, _, by first | (rw [hq]; done) | (rw [hq]; rfl), ?_, ?_⟩
      · unfold qval; first | (rw [hq]; done) | (rw [hq]; rfl)
      · repeat (first | (with_reducible first | exact Below.refl _ _ | apply below_alloc | apply pw_below_drewN | apply below_drew1) | (refine below_set ?_ (by omega)) | exact Below.refl _ _)
end Go.Proofs.Ytigbdfhlpnabdaa.Hand
