/- Contracts of math.Abs and what calls it for whatever bits; QuotWide as a function up to the bits of a NaN; a call of a function value. -/
import Derived.Test.YtigbdfhlpnabdaaProg
import Derived.Below
import Derived.Deep.Draws
import Derived.Deep.AppendLies
import Derived.Maps.AppendAt
import Derived.OwnWalk
import Derived.Laws.BytesArg
import Derived.Laws.MakeOwn
import Derived.Laws.OwnMore
import Derived.Deep.OwnRows
import Derived.Tactics
import Derived.Lib.ConvBytes
import Derived.Laws.Slices
import Derived.WalkKit
import Derived.KernelRfl
import Derived.RowKit3
import Derived.Deep.LoopGhost
import Derived.Deep.QuietTactic
import Derived.BigQuiet
import Derived.WideLaws
import Derived.Deep.DeepCutAuto
import Derived.Deep.CutBlock
import Derived.Deep.RegionHeld3
import Derived.Laws.Rows
import Derived.Lib.AppendStr
import Derived.ArgAppend
import Derived.Laws.IdiomCopy
import Derived.OrdersHeld
import Derived.Laws.BitsLemmas
import Derived.RowKit
import Derived.Test.YtigbdfhlpnabdaaWWords
import Derived.Test.YtigbdfhlpnabdaaWLast
import Derived.Test.YtigbdfhlpnabdaaWTab
import Derived.Test.YtigbdfhlpnabdaaWFour
import Derived.Test.YtigbdfhlpnabdaaWQPut
import Derived.Test.YtigbdfhlpnabdaaWApart
import Derived.Test.YtigbdfhlpnabdaaWArr
import Derived.Test.YtigbdfhlpnabdaaWZeros
import Derived.Test.YtigbdfhlpnabdaaWFoot
import Derived.Test.YtigbdfhlpnabdaaWKept
import Derived.Test.YtigbdfhlpnabdaaWShare
import Derived.Test.YtigbdfhlpnabdaaWN
import Derived.Test.YtigbdfhlpnabdaaWFootNe
import Derived.Test.YtigbdfhlpnabdaaWAt
import Derived.Test.YtigbdfhlpnabdaaWEqStruct
import Derived.Test.YtigbdfhlpnabdaaWRepsOne
import Derived.Test.YtigbdfhlpnabdaaWInv
import Derived.Test.YtigbdfhlpnabdaaWInvWords
import Derived.Test.YtigbdfhlpnabdaaWGuard
import Derived.Test.YtigbdfhlpnabdaaWNEv
import Derived.Test.YtigbdfhlpnabdaaWMore
import Derived.Outline
import Derived.Lib.Hide
import Derived.Laws.CopyOwn
import Derived.Deep.RegionLaw
import Derived.IntWalk
import Derived.Test.YtigbdfhlpnabdaaFloat
import Derived.Test.YtigbdfhlpnabdaaHandB
import Derived.Test.YtigbdfhlpnabdaaFl2
namespace Go.Proofs.Ytigbdfhlpnabdaa.Hand
open Go Go.RowKit Go.Proofs.YtigbdfhlpnabdaaW.PrintWords Go.Proofs.YtigbdfhlpnabdaaW.PrintLast Go.Proofs.YtigbdfhlpnabdaaW.PrintMore Go.Proofs.Ytigbdfhlpnabdaa.Fl
attribute [local go_sem] run_fadd run_fsub run_fmul run_fquo run_widen run_store_float
set_option linter.unusedVariables false
set_option linter.unusedSimpArgs false
open Go.Proofs.Ytigbdfhlpnabdaa.Hand
attribute [local go_sem] run61 run62 unary_fneg
theorem abs_bits2 (b : Nat) : bits .andNot .u64 (b : Int) 9223372036854775808 = ((b % 9223372036854775808 : Nat) : Int) := by
  have e : BitVec.ofInt 64 (b : Int) = BitVec.ofInt 64 ((b % 18446744073709551616 : Nat) : Int) := by
    apply BitVec.eq_of_toNat_eq
    simp only [BitVec.toNat_ofInt]
    congr 1
    omega
  have h : bits .andNot .u64 (b : Int) 9223372036854775808 = bits .andNot .u64 ((b % 18446744073709551616 : Nat) : Int) 9223372036854775808 := by
    show IntKind.u64.wrap ((BitVec.ofInt 64 (b : Int) &&& ~~~BitVec.ofInt 64 9223372036854775808).toNat : Int) = IntKind.u64.wrap ((BitVec.ofInt 64 ((b % 18446744073709551616 : Nat) : Int) &&& ~~~BitVec.ofInt 64 9223372036854775808).toNat : Int)
    rw [e]
  rw [h, abs_bits _ (Nat.mod_lt _ (by decide))]
  congr 1
  omega
theorem math_Abs2.calls (b : Nat) (w : World) : Calls Try.prog 47 #[.float .f64 b] w fun e w' => e = .returned (.float .f64 (b % 9223372036854775808)) ∧ w' = w := by
  go_enter Try.func47, Try.ntmps47
  go_wp2
  go_ret
  exact ⟨by rw [abs_bits2 b, Int.toNat_natCast]; rfl, rfl⟩

theorem math_IsInf2.calls (b : Nat) (w : World) : Calls Try.prog 60 #[.float .f64 b, .int .i64 0] w fun e w' => e = .returned (.bool (Ieee.double.read b).isInfinity) ∧ Drawn0 w w' := by
  go_enter Try.func60, Try.ntmps60
  go_wp2_with (first | ((with_reducible refine gate_callee (f := 47) rfl ?_); (try (refine gate_guard (by rfl) ?_; dsimp only)); refine goesL_ (some 8) rfl rfl Try.func47 (by kernel_rfl) rfl #[.float .f64 b] rfl (by (try simp only [List.map_toArray, List.map_cons, List.map_nil]); first | done | rfl) ?_; (with_reducible refine (math_Abs2.calls b _).mono ?_); rintro e w2 ⟨rfl, rfl⟩; refine ⟨_, rfl, ?_⟩))
  go_ret
  exact ⟨by rw [← inf_gt b]; rfl, by repeat (first | exact Drawn0.refl _ | apply Drawn0.step)⟩
theorem impl_finite2.calls (b : Nat) (w : World) : Calls Try.prog 46 #[.float .f64 b] w fun e w' => e = .returned (.bool (fin (cls .f64 b))) ∧ Drawn0 w w' := by
  cases hn : (cls .f64 b).isNone with
  | true =>
    go_enter Try.func46, Try.ntmps46
    go_wp2_with (first | ((with_reducible refine gate_callee (f := 59) rfl ?_); (try (refine gate_guard (by rfl) ?_; dsimp only)); refine goesL_ (some 4) rfl rfl Try.func59 (by kernel_rfl) rfl #[.float .f64 b] rfl (by (try simp only [List.map_toArray, List.map_cons, List.map_nil]); first | done | rfl) ?_; (with_reducible refine (math_IsNaN.calls b _).mono ?_); rintro e w2 ⟨rfl, ⟨n_, rfl⟩⟩; rw [hn]; refine ⟨_, rfl, ?_⟩))
    go_ret
    exact ⟨by rw [← fin_both b, hn]; rfl, by repeat (first | exact Drawn0.refl _ | apply Drawn0.step)⟩
  | false =>
    go_enter Try.func46, Try.ntmps46
    go_wp2_with (first | ((with_reducible refine gate_callee (f := 59) rfl ?_); (try (refine gate_guard (by rfl) ?_; dsimp only)); refine goesL_ (some 4) rfl rfl Try.func59 (by kernel_rfl) rfl #[.float .f64 b] rfl (by (try simp only [List.map_toArray, List.map_cons, List.map_nil]); first | done | rfl) ?_; (with_reducible refine (math_IsNaN.calls b _).mono ?_); rintro e w2 ⟨rfl, ⟨n_, rfl⟩⟩; rw [hn]; refine ⟨_, rfl, ?_⟩) | ((with_reducible refine gate_callee (f := 60) rfl ?_); (try (refine gate_guard (by rfl) ?_; dsimp only)); refine goesL_ (some 8) rfl rfl Try.func60 (by kernel_rfl) rfl #[.float .f64 b, .int .i64 0] rfl (by (try simp only [List.map_toArray, List.map_cons, List.map_nil]); first | done | rfl) ?_; (with_reducible refine (math_IsInf2.calls b _).mono ?_); rintro e w2 ⟨rfl, ⟨n_, rfl⟩⟩; refine ⟨_, rfl, ?_⟩))
    go_ret
    exact ⟨by rw [← fin_both b, hn]; rfl, by repeat (first | exact Drawn0.refl _ | apply Drawn0.step)⟩
set_option maxHeartbeats 8000000 in
set_option maxRecDepth 100000 in
theorem impl_QuotWide2.calls (a b c d : Nat) (w : World) : Calls Try.prog 23 #[.agg #[.float .f64 a, .float .f64 b], .agg #[.float .f64 c, .float .f64 d]] w fun e w' =>
    ∃ x y, e = .returned (.tuple #[.agg #[.float .f64 x, .float .f64 y], .bool (qok a b c d)]) ∧ (cls .f64 x, cls .f64 y) = qval a b c d ∧ Below w.heap.size w w' := by
  cases h1 : fin (cls .f64 a) with
  | false =>
    go_enter Try.func23, Try.ntmps23
    go_wp2_with (first | ((with_reducible refine gate_callee (f := 46) rfl ?_); (with_reducible refine gate_dst (N := 12) rfl ?_); (try (refine gate_guard (by rfl) ?_; dsimp only)); refine goesL_ (some 12) rfl rfl Try.func46 (by kernel_rfl) rfl #[.float .f64 a] rfl (by (try simp only [List.map_toArray, List.map_cons, List.map_nil]); first | done | rfl) ?_; (with_reducible refine (impl_finite2.calls a _).mono ?_); rintro e w2 ⟨rfl, ⟨n_, rfl⟩⟩; rw [h1]; refine ⟨_, rfl, ?_⟩))
    apply bodyPost_ret
    · simp [results, Try.f23, go_sem] <;> rfl
    · rfl
    · have hq : qok a b c d = false := by simp [qok, h1]
      refine ⟨_, _, by first | (rw [hq]; done) | (rw [hq]; rfl), ?_, ?_⟩
      · unfold qval; first | (rw [hq]; done) | (rw [hq]; rfl)
      · repeat (first | (with_reducible first | exact Below.refl _ _ | apply below_alloc | apply pw_below_drewN | apply below_drew1) | (refine below_set ?_ (by omega)) | exact Below.refl _ _)
  | true =>
  cases h2 : fin (cls .f64 b) with
  | false =>
    go_enter Try.func23, Try.ntmps23
    go_wp2_with (first | ((with_reducible refine gate_callee (f := 46) rfl ?_); (with_reducible refine gate_dst (N := 12) rfl ?_); (try (refine gate_guard (by rfl) ?_; dsimp only)); refine goesL_ (some 12) rfl rfl Try.func46 (by kernel_rfl) rfl #[.float .f64 a] rfl (by (try simp only [List.map_toArray, List.map_cons, List.map_nil]); first | done | rfl) ?_; (with_reducible refine (impl_finite2.calls a _).mono ?_); rintro e w2 ⟨rfl, ⟨n_, rfl⟩⟩; rw [h1]; refine ⟨_, rfl, ?_⟩) | ((with_reducible refine gate_callee (f := 46) rfl ?_); (with_reducible refine gate_dst (N := 17) rfl ?_); (try (refine gate_guard (by rfl) ?_; dsimp only)); refine goesL_ (some 17) rfl rfl Try.func46 (by kernel_rfl) rfl #[.float .f64 b] rfl (by (try simp only [List.map_toArray, List.map_cons, List.map_nil]); first | done | rfl) ?_; (with_reducible refine (impl_finite2.calls b _).mono ?_); rintro e w2 ⟨rfl, ⟨n_, rfl⟩⟩; rw [h2]; refine ⟨_, rfl, ?_⟩))
    apply bodyPost_ret
    · simp [results, Try.f23, go_sem] <;> rfl
    · rfl
    · have hq : qok a b c d = false := by simp [qok, h1, h2]
      refine ⟨_, _, by first | (rw [hq]; done) | (rw [hq]; rfl), ?_, ?_⟩
      · unfold qval; first | (rw [hq]; done) | (rw [hq]; rfl)
      · repeat (first | (with_reducible first | exact Below.refl _ _ | apply below_alloc | apply pw_below_drewN | apply below_drew1) | (refine below_set ?_ (by omega)) | exact Below.refl _ _)
  | true =>
  cases h3 : fin (cls .f64 c) with
  | false =>
    go_enter Try.func23, Try.ntmps23
    go_wp2_with (first | ((with_reducible refine gate_callee (f := 46) rfl ?_); (with_reducible refine gate_dst (N := 12) rfl ?_); (try (refine gate_guard (by rfl) ?_; dsimp only)); refine goesL_ (some 12) rfl rfl Try.func46 (by kernel_rfl) rfl #[.float .f64 a] rfl (by (try simp only [List.map_toArray, List.map_cons, List.map_nil]); first | done | rfl) ?_; (with_reducible refine (impl_finite2.calls a _).mono ?_); rintro e w2 ⟨rfl, ⟨n_, rfl⟩⟩; rw [h1]; refine ⟨_, rfl, ?_⟩) | ((with_reducible refine gate_callee (f := 46) rfl ?_); (with_reducible refine gate_dst (N := 17) rfl ?_); (try (refine gate_guard (by rfl) ?_; dsimp only)); refine goesL_ (some 17) rfl rfl Try.func46 (by kernel_rfl) rfl #[.float .f64 b] rfl (by (try simp only [List.map_toArray, List.map_cons, List.map_nil]); first | done | rfl) ?_; (with_reducible refine (impl_finite2.calls b _).mono ?_); rintro e w2 ⟨rfl, ⟨n_, rfl⟩⟩; rw [h2]; refine ⟨_, rfl, ?_⟩) | ((with_reducible refine gate_callee (f := 46) rfl ?_); (with_reducible refine gate_dst (N := 23) rfl ?_); (try (refine gate_guard (by rfl) ?_; dsimp only)); refine goesL_ (some 23) rfl rfl Try.func46 (by kernel_rfl) rfl #[.float .f64 c] rfl (by (try simp only [List.map_toArray, List.map_cons, List.map_nil]); first | done | rfl) ?_; (with_reducible refine (impl_finite2.calls c _).mono ?_); rintro e w2 ⟨rfl, ⟨n_, rfl⟩⟩; rw [h3]; refine ⟨_, rfl, ?_⟩))
    apply bodyPost_ret
    · simp [results, Try.f23, go_sem] <;> rfl
    · rfl
    · have hq : qok a b c d = false := by simp [qok, h1, h2, h3]
      refine ⟨_, _, by first | (rw [hq]; done) | (rw [hq]; rfl), ?_, ?_⟩
      · unfold qval; first | (rw [hq]; done) | (rw [hq]; rfl)
      · repeat (first | (with_reducible first | exact Below.refl _ _ | apply below_alloc | apply pw_below_drewN | apply below_drew1) | (refine below_set ?_ (by omega)) | exact Below.refl _ _)
  | true =>
  cases h4 : fin (cls .f64 d) with
  | false =>
    go_enter Try.func23, Try.ntmps23
    go_wp2_with (first | ((with_reducible refine gate_callee (f := 46) rfl ?_); (with_reducible refine gate_dst (N := 12) rfl ?_); (try (refine gate_guard (by rfl) ?_; dsimp only)); refine goesL_ (some 12) rfl rfl Try.func46 (by kernel_rfl) rfl #[.float .f64 a] rfl (by (try simp only [List.map_toArray, List.map_cons, List.map_nil]); first | done | rfl) ?_; (with_reducible refine (impl_finite2.calls a _).mono ?_); rintro e w2 ⟨rfl, ⟨n_, rfl⟩⟩; rw [h1]; refine ⟨_, rfl, ?_⟩) | ((with_reducible refine gate_callee (f := 46) rfl ?_); (with_reducible refine gate_dst (N := 17) rfl ?_); (try (refine gate_guard (by rfl) ?_; dsimp only)); refine goesL_ (some 17) rfl rfl Try.func46 (by kernel_rfl) rfl #[.float .f64 b] rfl (by (try simp only [List.map_toArray, List.map_cons, List.map_nil]); first | done | rfl) ?_; (with_reducible refine (impl_finite2.calls b _).mono ?_); rintro e w2 ⟨rfl, ⟨n_, rfl⟩⟩; rw [h2]; refine ⟨_, rfl, ?_⟩) | ((with_reducible refine gate_callee (f := 46) rfl ?_); (with_reducible refine gate_dst (N := 23) rfl ?_); (try (refine gate_guard (by rfl) ?_; dsimp only)); refine goesL_ (some 23) rfl rfl Try.func46 (by kernel_rfl) rfl #[.float .f64 c] rfl (by (try simp only [List.map_toArray, List.map_cons, List.map_nil]); first | done | rfl) ?_; (with_reducible refine (impl_finite2.calls c _).mono ?_); rintro e w2 ⟨rfl, ⟨n_, rfl⟩⟩; rw [h3]; refine ⟨_, rfl, ?_⟩) | ((with_reducible refine gate_callee (f := 46) rfl ?_); (with_reducible refine gate_dst (N := 29) rfl ?_); (try (refine gate_guard (by rfl) ?_; dsimp only)); refine goesL_ (some 29) rfl rfl Try.func46 (by kernel_rfl) rfl #[.float .f64 d] rfl (by (try simp only [List.map_toArray, List.map_cons, List.map_nil]); first | done | rfl) ?_; (with_reducible refine (impl_finite2.calls d _).mono ?_); rintro e w2 ⟨rfl, ⟨n_, rfl⟩⟩; rw [h4]; refine ⟨_, rfl, ?_⟩))
    apply bodyPost_ret
    · simp [results, Try.f23, go_sem] <;> rfl
    · rfl
    · have hq : qok a b c d = false := by simp [qok, h1, h2, h3, h4]
      refine ⟨_, _, by first | (rw [hq]; done) | (rw [hq]; rfl), ?_, ?_⟩
      · unfold qval; first | (rw [hq]; done) | (rw [hq]; rfl)
      · repeat (first | (with_reducible first | exact Below.refl _ _ | apply below_alloc | apply pw_below_drewN | apply below_drew1) | (refine below_set ?_ (by omega)) | exact Below.refl _ _)
  | true =>
  cases z1 : (FloatKind.f64.format.order c 0 == some .eq) with
  | false =>
    cases hb : qbig c d with
    | true =>
      have hbs : (FloatKind.f64.format.order (c % 9223372036854775808) (d % 9223372036854775808) == some .gt || FloatKind.f64.format.order (c % 9223372036854775808) (d % 9223372036854775808) == some .eq) = true := hb
      go_enter Try.func23, Try.ntmps23
      go_wp2_with (first | ((with_reducible refine gate_callee (f := 46) rfl ?_); (with_reducible refine gate_dst (N := 12) rfl ?_); (try (refine gate_guard (by rfl) ?_; dsimp only)); refine goesL_ (some 12) rfl rfl Try.func46 (by kernel_rfl) rfl #[.float .f64 a] rfl (by (try simp only [List.map_toArray, List.map_cons, List.map_nil]); first | done | rfl) ?_; (with_reducible refine (impl_finite2.calls a _).mono ?_); rintro e w2 ⟨rfl, ⟨n_, rfl⟩⟩; rw [h1]; refine ⟨_, rfl, ?_⟩) | ((with_reducible refine gate_callee (f := 46) rfl ?_); (with_reducible refine gate_dst (N := 17) rfl ?_); (try (refine gate_guard (by rfl) ?_; dsimp only)); refine goesL_ (some 17) rfl rfl Try.func46 (by kernel_rfl) rfl #[.float .f64 b] rfl (by (try simp only [List.map_toArray, List.map_cons, List.map_nil]); first | done | rfl) ?_; (with_reducible refine (impl_finite2.calls b _).mono ?_); rintro e w2 ⟨rfl, ⟨n_, rfl⟩⟩; rw [h2]; refine ⟨_, rfl, ?_⟩) | ((with_reducible refine gate_callee (f := 46) rfl ?_); (with_reducible refine gate_dst (N := 23) rfl ?_); (try (refine gate_guard (by rfl) ?_; dsimp only)); refine goesL_ (some 23) rfl rfl Try.func46 (by kernel_rfl) rfl #[.float .f64 c] rfl (by (try simp only [List.map_toArray, List.map_cons, List.map_nil]); first | done | rfl) ?_; (with_reducible refine (impl_finite2.calls c _).mono ?_); rintro e w2 ⟨rfl, ⟨n_, rfl⟩⟩; rw [h3]; refine ⟨_, rfl, ?_⟩) | ((with_reducible refine gate_callee (f := 46) rfl ?_); (with_reducible refine gate_dst (N := 29) rfl ?_); (try (refine gate_guard (by rfl) ?_; dsimp only)); refine goesL_ (some 29) rfl rfl Try.func46 (by kernel_rfl) rfl #[.float .f64 d] rfl (by (try simp only [List.map_toArray, List.map_cons, List.map_nil]); first | done | rfl) ?_; (with_reducible refine (impl_finite2.calls d _).mono ?_); rintro e w2 ⟨rfl, ⟨n_, rfl⟩⟩; rw [h4]; refine ⟨_, rfl, ?_⟩))
      go_quiet ((go_at_call 47; first | exact quiet_more (math_Abs2.calls c _) | exact quiet_more (math_Abs2.calls d _) | exact Calls.quiet_of_same (math_Abs2.calls c _) | exact Calls.quiet_of_same (math_Abs2.calls d _)))
      go_wp2_with (first | ((with_reducible refine gate_dst (N := 54) rfl ?_); refine arith_event rfl rfl rfl rfl rfl ?_; intro r54 q54 hr54) | ((with_reducible refine gate_dst (N := 60) rfl ?_); refine arith_event rfl rfl rfl rfl rfl ?_; intro r60 q60 hr60) | ((with_reducible refine gate_dst (N := 61) rfl ?_); refine arith_event rfl rfl rfl rfl rfl ?_; intro r61 q61 hr61) | ((with_reducible refine gate_dst (N := 67) rfl ?_); refine arith_event rfl rfl rfl rfl rfl ?_; intro r67 q67 hr67) | ((with_reducible refine gate_dst (N := 68) rfl ?_); refine arith_event rfl rfl rfl rfl rfl ?_; intro r68 q68 hr68) | ((with_reducible refine gate_dst (N := 70) rfl ?_); refine arith_event rfl rfl rfl rfl rfl ?_; intro r70 q70 hr70) | ((with_reducible refine gate_dst (N := 76) rfl ?_); refine arith_event rfl rfl rfl rfl rfl ?_; intro r76 q76 hr76) | ((with_reducible refine gate_dst (N := 77) rfl ?_); refine arith_event rfl rfl rfl rfl rfl ?_; intro r77 q77 hr77) | ((with_reducible refine gate_dst (N := 79) rfl ?_); refine arith_event rfl rfl rfl rfl rfl ?_; intro r79 q79 hr79) | ((with_reducible refine gate_dst (N := 85) rfl ?_); refine arith_event rfl rfl rfl rfl rfl ?_; intro r85 q85 hr85) | ((with_reducible refine gate_dst (N := 91) rfl ?_); refine arith_event rfl rfl rfl rfl rfl ?_; intro r91 q91 hr91) | ((with_reducible refine gate_dst (N := 92) rfl ?_); refine arith_event rfl rfl rfl rfl rfl ?_; intro r92 q92 hr92) | ((with_reducible refine gate_dst (N := 96) rfl ?_); refine arith_event rfl rfl rfl rfl rfl ?_; intro r96 q96 hr96) | ((with_reducible refine gate_dst (N := 99) rfl ?_); refine arith_event rfl rfl rfl rfl rfl ?_; intro r99 q99 hr99) | ((with_reducible refine gate_dst (N := 101) rfl ?_); refine arith_event rfl rfl rfl rfl rfl ?_; intro r101 q101 hr101) | ((with_reducible refine gate_dst (N := 105) rfl ?_); refine arith_event rfl rfl rfl rfl rfl ?_; intro r105 q105 hr105) | ((with_reducible refine gate_dst (N := 108) rfl ?_); refine arith_event rfl rfl rfl rfl rfl ?_; intro r108 q108 hr108) | ((with_reducible refine gate_dst (N := 110) rfl ?_); refine arith_event rfl rfl rfl rfl rfl ?_; intro r110 q110 hr110))
      apply bodyPost_ret
      · simp [results, Try.f23, go_sem] <;> rfl
      · rfl
      · have hq : qok a b c d = true := by simp [qok, h1, h2, h3, h4, z1]
        refine ⟨_, _, by first | (rw [hq]; done) | (rw [hq]; rfl), ?_, ?_⟩
        · unfold qval; rw [hq, hb]; simp only [quot, if_true, Bool.false_eq_true, if_false, fA, fS, fM, fQ]; rw [hr70.out, hr79.out, hr68.out, hr77.out, hr67.out, hr76.out, hr61.out, hr60.out, hr54.out]
        · repeat (first | (with_reducible first | exact Below.refl _ _ | apply below_alloc | apply pw_below_drewN | apply below_drew1) | (refine below_set ?_ (by omega)) | exact Below.refl _ _)
    | false =>
      have hbs : (FloatKind.f64.format.order (c % 9223372036854775808) (d % 9223372036854775808) == some .gt || FloatKind.f64.format.order (c % 9223372036854775808) (d % 9223372036854775808) == some .eq) = false := hb
      go_enter Try.func23, Try.ntmps23
      go_wp2_with (first | ((with_reducible refine gate_callee (f := 46) rfl ?_); (with_reducible refine gate_dst (N := 12) rfl ?_); (try (refine gate_guard (by rfl) ?_; dsimp only)); refine goesL_ (some 12) rfl rfl Try.func46 (by kernel_rfl) rfl #[.float .f64 a] rfl (by (try simp only [List.map_toArray, List.map_cons, List.map_nil]); first | done | rfl) ?_; (with_reducible refine (impl_finite2.calls a _).mono ?_); rintro e w2 ⟨rfl, ⟨n_, rfl⟩⟩; rw [h1]; refine ⟨_, rfl, ?_⟩) | ((with_reducible refine gate_callee (f := 46) rfl ?_); (with_reducible refine gate_dst (N := 17) rfl ?_); (try (refine gate_guard (by rfl) ?_; dsimp only)); refine goesL_ (some 17) rfl rfl Try.func46 (by kernel_rfl) rfl #[.float .f64 b] rfl (by (try simp only [List.map_toArray, List.map_cons, List.map_nil]); first | done | rfl) ?_; (with_reducible refine (impl_finite2.calls b _).mono ?_); rintro e w2 ⟨rfl, ⟨n_, rfl⟩⟩; rw [h2]; refine ⟨_, rfl, ?_⟩) | ((with_reducible refine gate_callee (f := 46) rfl ?_); (with_reducible refine gate_dst (N := 23) rfl ?_); (try (refine gate_guard (by rfl) ?_; dsimp only)); refine goesL_ (some 23) rfl rfl Try.func46 (by kernel_rfl) rfl #[.float .f64 c] rfl (by (try simp only [List.map_toArray, List.map_cons, List.map_nil]); first | done | rfl) ?_; (with_reducible refine (impl_finite2.calls c _).mono ?_); rintro e w2 ⟨rfl, ⟨n_, rfl⟩⟩; rw [h3]; refine ⟨_, rfl, ?_⟩) | ((with_reducible refine gate_callee (f := 46) rfl ?_); (with_reducible refine gate_dst (N := 29) rfl ?_); (try (refine gate_guard (by rfl) ?_; dsimp only)); refine goesL_ (some 29) rfl rfl Try.func46 (by kernel_rfl) rfl #[.float .f64 d] rfl (by (try simp only [List.map_toArray, List.map_cons, List.map_nil]); first | done | rfl) ?_; (with_reducible refine (impl_finite2.calls d _).mono ?_); rintro e w2 ⟨rfl, ⟨n_, rfl⟩⟩; rw [h4]; refine ⟨_, rfl, ?_⟩))
      go_quiet ((go_at_call 47; first | exact quiet_more (math_Abs2.calls c _) | exact quiet_more (math_Abs2.calls d _) | exact Calls.quiet_of_same (math_Abs2.calls c _) | exact Calls.quiet_of_same (math_Abs2.calls d _)))
      go_wp2_with (first | ((with_reducible refine gate_dst (N := 54) rfl ?_); refine arith_event rfl rfl rfl rfl rfl ?_; intro r54 q54 hr54) | ((with_reducible refine gate_dst (N := 60) rfl ?_); refine arith_event rfl rfl rfl rfl rfl ?_; intro r60 q60 hr60) | ((with_reducible refine gate_dst (N := 61) rfl ?_); refine arith_event rfl rfl rfl rfl rfl ?_; intro r61 q61 hr61) | ((with_reducible refine gate_dst (N := 67) rfl ?_); refine arith_event rfl rfl rfl rfl rfl ?_; intro r67 q67 hr67) | ((with_reducible refine gate_dst (N := 68) rfl ?_); refine arith_event rfl rfl rfl rfl rfl ?_; intro r68 q68 hr68) | ((with_reducible refine gate_dst (N := 70) rfl ?_); refine arith_event rfl rfl rfl rfl rfl ?_; intro r70 q70 hr70) | ((with_reducible refine gate_dst (N := 76) rfl ?_); refine arith_event rfl rfl rfl rfl rfl ?_; intro r76 q76 hr76) | ((with_reducible refine gate_dst (N := 77) rfl ?_); refine arith_event rfl rfl rfl rfl rfl ?_; intro r77 q77 hr77) | ((with_reducible refine gate_dst (N := 79) rfl ?_); refine arith_event rfl rfl rfl rfl rfl ?_; intro r79 q79 hr79) | ((with_reducible refine gate_dst (N := 85) rfl ?_); refine arith_event rfl rfl rfl rfl rfl ?_; intro r85 q85 hr85) | ((with_reducible refine gate_dst (N := 91) rfl ?_); refine arith_event rfl rfl rfl rfl rfl ?_; intro r91 q91 hr91) | ((with_reducible refine gate_dst (N := 92) rfl ?_); refine arith_event rfl rfl rfl rfl rfl ?_; intro r92 q92 hr92) | ((with_reducible refine gate_dst (N := 96) rfl ?_); refine arith_event rfl rfl rfl rfl rfl ?_; intro r96 q96 hr96) | ((with_reducible refine gate_dst (N := 99) rfl ?_); refine arith_event rfl rfl rfl rfl rfl ?_; intro r99 q99 hr99) | ((with_reducible refine gate_dst (N := 101) rfl ?_); refine arith_event rfl rfl rfl rfl rfl ?_; intro r101 q101 hr101) | ((with_reducible refine gate_dst (N := 105) rfl ?_); refine arith_event rfl rfl rfl rfl rfl ?_; intro r105 q105 hr105) | ((with_reducible refine gate_dst (N := 108) rfl ?_); refine arith_event rfl rfl rfl rfl rfl ?_; intro r108 q108 hr108) | ((with_reducible refine gate_dst (N := 110) rfl ?_); refine arith_event rfl rfl rfl rfl rfl ?_; intro r110 q110 hr110))
      apply bodyPost_ret
      · simp [results, Try.f23, go_sem] <;> rfl
      · rfl
      · have hq : qok a b c d = true := by simp [qok, h1, h2, h3, h4, z1]
        refine ⟨_, _, by first | (rw [hq]; done) | (rw [hq]; rfl), ?_, ?_⟩
        · unfold qval; rw [hq, hb]; simp only [quot, if_true, Bool.false_eq_true, if_false, fA, fS, fM, fQ]; rw [hr101.out, hr110.out, hr99.out, hr108.out, hr96.out, hr105.out, hr92.out, hr91.out, hr85.out]
        · repeat (first | (with_reducible first | exact Below.refl _ _ | apply below_alloc | apply pw_below_drewN | apply below_drew1) | (refine below_set ?_ (by omega)) | exact Below.refl _ _)
  | true =>
  cases z2 : (FloatKind.f64.format.order d 0 == some .eq) with
  | false =>
    cases hb : qbig c d with
    | true =>
      have hbs : (FloatKind.f64.format.order (c % 9223372036854775808) (d % 9223372036854775808) == some .gt || FloatKind.f64.format.order (c % 9223372036854775808) (d % 9223372036854775808) == some .eq) = true := hb
      go_enter Try.func23, Try.ntmps23
      go_wp2_with (first | ((with_reducible refine gate_callee (f := 46) rfl ?_); (with_reducible refine gate_dst (N := 12) rfl ?_); (try (refine gate_guard (by rfl) ?_; dsimp only)); refine goesL_ (some 12) rfl rfl Try.func46 (by kernel_rfl) rfl #[.float .f64 a] rfl (by (try simp only [List.map_toArray, List.map_cons, List.map_nil]); first | done | rfl) ?_; (with_reducible refine (impl_finite2.calls a _).mono ?_); rintro e w2 ⟨rfl, ⟨n_, rfl⟩⟩; rw [h1]; refine ⟨_, rfl, ?_⟩) | ((with_reducible refine gate_callee (f := 46) rfl ?_); (with_reducible refine gate_dst (N := 17) rfl ?_); (try (refine gate_guard (by rfl) ?_; dsimp only)); refine goesL_ (some 17) rfl rfl Try.func46 (by kernel_rfl) rfl #[.float .f64 b] rfl (by (try simp only [List.map_toArray, List.map_cons, List.map_nil]); first | done | rfl) ?_; (with_reducible refine (impl_finite2.calls b _).mono ?_); rintro e w2 ⟨rfl, ⟨n_, rfl⟩⟩; rw [h2]; refine ⟨_, rfl, ?_⟩) | ((with_reducible refine gate_callee (f := 46) rfl ?_); (with_reducible refine gate_dst (N := 23) rfl ?_); (try (refine gate_guard (by rfl) ?_; dsimp only)); refine goesL_ (some 23) rfl rfl Try.func46 (by kernel_rfl) rfl #[.float .f64 c] rfl (by (try simp only [List.map_toArray, List.map_cons, List.map_nil]); first | done | rfl) ?_; (with_reducible refine (impl_finite2.calls c _).mono ?_); rintro e w2 ⟨rfl, ⟨n_, rfl⟩⟩; rw [h3]; refine ⟨_, rfl, ?_⟩) | ((with_reducible refine gate_callee (f := 46) rfl ?_); (with_reducible refine gate_dst (N := 29) rfl ?_); (try (refine gate_guard (by rfl) ?_; dsimp only)); refine goesL_ (some 29) rfl rfl Try.func46 (by kernel_rfl) rfl #[.float .f64 d] rfl (by (try simp only [List.map_toArray, List.map_cons, List.map_nil]); first | done | rfl) ?_; (with_reducible refine (impl_finite2.calls d _).mono ?_); rintro e w2 ⟨rfl, ⟨n_, rfl⟩⟩; rw [h4]; refine ⟨_, rfl, ?_⟩))
      go_quiet ((go_at_call 47; first | exact quiet_more (math_Abs2.calls c _) | exact quiet_more (math_Abs2.calls d _) | exact Calls.quiet_of_same (math_Abs2.calls c _) | exact Calls.quiet_of_same (math_Abs2.calls d _)))
      go_wp2_with (first | ((with_reducible refine gate_dst (N := 54) rfl ?_); refine arith_event rfl rfl rfl rfl rfl ?_; intro r54 q54 hr54) | ((with_reducible refine gate_dst (N := 60) rfl ?_); refine arith_event rfl rfl rfl rfl rfl ?_; intro r60 q60 hr60) | ((with_reducible refine gate_dst (N := 61) rfl ?_); refine arith_event rfl rfl rfl rfl rfl ?_; intro r61 q61 hr61) | ((with_reducible refine gate_dst (N := 67) rfl ?_); refine arith_event rfl rfl rfl rfl rfl ?_; intro r67 q67 hr67) | ((with_reducible refine gate_dst (N := 68) rfl ?_); refine arith_event rfl rfl rfl rfl rfl ?_; intro r68 q68 hr68) | ((with_reducible refine gate_dst (N := 70) rfl ?_); refine arith_event rfl rfl rfl rfl rfl ?_; intro r70 q70 hr70) | ((with_reducible refine gate_dst (N := 76) rfl ?_); refine arith_event rfl rfl rfl rfl rfl ?_; intro r76 q76 hr76) | ((with_reducible refine gate_dst (N := 77) rfl ?_); refine arith_event rfl rfl rfl rfl rfl ?_; intro r77 q77 hr77) | ((with_reducible refine gate_dst (N := 79) rfl ?_); refine arith_event rfl rfl rfl rfl rfl ?_; intro r79 q79 hr79) | ((with_reducible refine gate_dst (N := 85) rfl ?_); refine arith_event rfl rfl rfl rfl rfl ?_; intro r85 q85 hr85) | ((with_reducible refine gate_dst (N := 91) rfl ?_); refine arith_event rfl rfl rfl rfl rfl ?_; intro r91 q91 hr91) | ((with_reducible refine gate_dst (N := 92) rfl ?_); refine arith_event rfl rfl rfl rfl rfl ?_; intro r92 q92 hr92) | ((with_reducible refine gate_dst (N := 96) rfl ?_); refine arith_event rfl rfl rfl rfl rfl ?_; intro r96 q96 hr96) | ((with_reducible refine gate_dst (N := 99) rfl ?_); refine arith_event rfl rfl rfl rfl rfl ?_; intro r99 q99 hr99) | ((with_reducible refine gate_dst (N := 101) rfl ?_); refine arith_event rfl rfl rfl rfl rfl ?_; intro r101 q101 hr101) | ((with_reducible refine gate_dst (N := 105) rfl ?_); refine arith_event rfl rfl rfl rfl rfl ?_; intro r105 q105 hr105) | ((with_reducible refine gate_dst (N := 108) rfl ?_); refine arith_event rfl rfl rfl rfl rfl ?_; intro r108 q108 hr108) | ((with_reducible refine gate_dst (N := 110) rfl ?_); refine arith_event rfl rfl rfl rfl rfl ?_; intro r110 q110 hr110))
      apply bodyPost_ret
      · simp [results, Try.f23, go_sem] <;> rfl
      · rfl
      · have hq : qok a b c d = true := by simp [qok, h1, h2, h3, h4, z1, z2]
        refine ⟨_, _, by first | (rw [hq]; done) | (rw [hq]; rfl), ?_, ?_⟩
        · unfold qval; rw [hq, hb]; simp only [quot, if_true, Bool.false_eq_true, if_false, fA, fS, fM, fQ]; rw [hr70.out, hr79.out, hr68.out, hr77.out, hr67.out, hr76.out, hr61.out, hr60.out, hr54.out]
        · repeat (first | (with_reducible first | exact Below.refl _ _ | apply below_alloc | apply pw_below_drewN | apply below_drew1) | (refine below_set ?_ (by omega)) | exact Below.refl _ _)
    | false =>
      have hbs : (FloatKind.f64.format.order (c % 9223372036854775808) (d % 9223372036854775808) == some .gt || FloatKind.f64.format.order (c % 9223372036854775808) (d % 9223372036854775808) == some .eq) = false := hb
      go_enter Try.func23, Try.ntmps23
      go_wp2_with (first | ((with_reducible refine gate_callee (f := 46) rfl ?_); (with_reducible refine gate_dst (N := 12) rfl ?_); (try (refine gate_guard (by rfl) ?_; dsimp only)); refine goesL_ (some 12) rfl rfl Try.func46 (by kernel_rfl) rfl #[.float .f64 a] rfl (by (try simp only [List.map_toArray, List.map_cons, List.map_nil]); first | done | rfl) ?_; (with_reducible refine (impl_finite2.calls a _).mono ?_); rintro e w2 ⟨rfl, ⟨n_, rfl⟩⟩; rw [h1]; refine ⟨_, rfl, ?_⟩) | ((with_reducible refine gate_callee (f := 46) rfl ?_); (with_reducible refine gate_dst (N := 17) rfl ?_); (try (refine gate_guard (by rfl) ?_; dsimp only)); refine goesL_ (some 17) rfl rfl Try.func46 (by kernel_rfl) rfl #[.float .f64 b] rfl (by (try simp only [List.map_toArray, List.map_cons, List.map_nil]); first | done | rfl) ?_; (with_reducible refine (impl_finite2.calls b _).mono ?_); rintro e w2 ⟨rfl, ⟨n_, rfl⟩⟩; rw [h2]; refine ⟨_, rfl, ?_⟩) | ((with_reducible refine gate_callee (f := 46) rfl ?_); (with_reducible refine gate_dst (N := 23) rfl ?_); (try (refine gate_guard (by rfl) ?_; dsimp only)); refine goesL_ (some 23) rfl rfl Try.func46 (by kernel_rfl) rfl #[.float .f64 c] rfl (by (try simp only [List.map_toArray, List.map_cons, List.map_nil]); first | done | rfl) ?_; (with_reducible refine (impl_finite2.calls c _).mono ?_); rintro e w2 ⟨rfl, ⟨n_, rfl⟩⟩; rw [h3]; refine ⟨_, rfl, ?_⟩) | ((with_reducible refine gate_callee (f := 46) rfl ?_); (with_reducible refine gate_dst (N := 29) rfl ?_); (try (refine gate_guard (by rfl) ?_; dsimp only)); refine goesL_ (some 29) rfl rfl Try.func46 (by kernel_rfl) rfl #[.float .f64 d] rfl (by (try simp only [List.map_toArray, List.map_cons, List.map_nil]); first | done | rfl) ?_; (with_reducible refine (impl_finite2.calls d _).mono ?_); rintro e w2 ⟨rfl, ⟨n_, rfl⟩⟩; rw [h4]; refine ⟨_, rfl, ?_⟩))
      go_quiet ((go_at_call 47; first | exact quiet_more (math_Abs2.calls c _) | exact quiet_more (math_Abs2.calls d _) | exact Calls.quiet_of_same (math_Abs2.calls c _) | exact Calls.quiet_of_same (math_Abs2.calls d _)))
      go_wp2_with (first | ((with_reducible refine gate_dst (N := 54) rfl ?_); refine arith_event rfl rfl rfl rfl rfl ?_; intro r54 q54 hr54) | ((with_reducible refine gate_dst (N := 60) rfl ?_); refine arith_event rfl rfl rfl rfl rfl ?_; intro r60 q60 hr60) | ((with_reducible refine gate_dst (N := 61) rfl ?_); refine arith_event rfl rfl rfl rfl rfl ?_; intro r61 q61 hr61) | ((with_reducible refine gate_dst (N := 67) rfl ?_); refine arith_event rfl rfl rfl rfl rfl ?_; intro r67 q67 hr67) | ((with_reducible refine gate_dst (N := 68) rfl ?_); refine arith_event rfl rfl rfl rfl rfl ?_; intro r68 q68 hr68) | ((with_reducible refine gate_dst (N := 70) rfl ?_); refine arith_event rfl rfl rfl rfl rfl ?_; intro r70 q70 hr70) | ((with_reducible refine gate_dst (N := 76) rfl ?_); refine arith_event rfl rfl rfl rfl rfl ?_; intro r76 q76 hr76) | ((with_reducible refine gate_dst (N := 77) rfl ?_); refine arith_event rfl rfl rfl rfl rfl ?_; intro r77 q77 hr77) | ((with_reducible refine gate_dst (N := 79) rfl ?_); refine arith_event rfl rfl rfl rfl rfl ?_; intro r79 q79 hr79) | ((with_reducible refine gate_dst (N := 85) rfl ?_); refine arith_event rfl rfl rfl rfl rfl ?_; intro r85 q85 hr85) | ((with_reducible refine gate_dst (N := 91) rfl ?_); refine arith_event rfl rfl rfl rfl rfl ?_; intro r91 q91 hr91) | ((with_reducible refine gate_dst (N := 92) rfl ?_); refine arith_event rfl rfl rfl rfl rfl ?_; intro r92 q92 hr92) | ((with_reducible refine gate_dst (N := 96) rfl ?_); refine arith_event rfl rfl rfl rfl rfl ?_; intro r96 q96 hr96) | ((with_reducible refine gate_dst (N := 99) rfl ?_); refine arith_event rfl rfl rfl rfl rfl ?_; intro r99 q99 hr99) | ((with_reducible refine gate_dst (N := 101) rfl ?_); refine arith_event rfl rfl rfl rfl rfl ?_; intro r101 q101 hr101) | ((with_reducible refine gate_dst (N := 105) rfl ?_); refine arith_event rfl rfl rfl rfl rfl ?_; intro r105 q105 hr105) | ((with_reducible refine gate_dst (N := 108) rfl ?_); refine arith_event rfl rfl rfl rfl rfl ?_; intro r108 q108 hr108) | ((with_reducible refine gate_dst (N := 110) rfl ?_); refine arith_event rfl rfl rfl rfl rfl ?_; intro r110 q110 hr110))
      apply bodyPost_ret
      · simp [results, Try.f23, go_sem] <;> rfl
      · rfl
      · have hq : qok a b c d = true := by simp [qok, h1, h2, h3, h4, z1, z2]
        refine ⟨_, _, by first | (rw [hq]; done) | (rw [hq]; rfl), ?_, ?_⟩
        · unfold qval; rw [hq, hb]; simp only [quot, if_true, Bool.false_eq_true, if_false, fA, fS, fM, fQ]; rw [hr101.out, hr110.out, hr99.out, hr108.out, hr96.out, hr105.out, hr92.out, hr91.out, hr85.out]
        · repeat (first | (with_reducible first | exact Below.refl _ _ | apply below_alloc | apply pw_below_drewN | apply below_drew1) | (refine below_set ?_ (by omega)) | exact Below.refl _ _)
  | true =>
    go_enter Try.func23, Try.ntmps23
    go_wp2_with (first | ((with_reducible refine gate_callee (f := 46) rfl ?_); (with_reducible refine gate_dst (N := 12) rfl ?_); (try (refine gate_guard (by rfl) ?_; dsimp only)); refine goesL_ (some 12) rfl rfl Try.func46 (by kernel_rfl) rfl #[.float .f64 a] rfl (by (try simp only [List.map_toArray, List.map_cons, List.map_nil]); first | done | rfl) ?_; (with_reducible refine (impl_finite2.calls a _).mono ?_); rintro e w2 ⟨rfl, ⟨n_, rfl⟩⟩; rw [h1]; refine ⟨_, rfl, ?_⟩) | ((with_reducible refine gate_callee (f := 46) rfl ?_); (with_reducible refine gate_dst (N := 17) rfl ?_); (try (refine gate_guard (by rfl) ?_; dsimp only)); refine goesL_ (some 17) rfl rfl Try.func46 (by kernel_rfl) rfl #[.float .f64 b] rfl (by (try simp only [List.map_toArray, List.map_cons, List.map_nil]); first | done | rfl) ?_; (with_reducible refine (impl_finite2.calls b _).mono ?_); rintro e w2 ⟨rfl, ⟨n_, rfl⟩⟩; rw [h2]; refine ⟨_, rfl, ?_⟩) | ((with_reducible refine gate_callee (f := 46) rfl ?_); (with_reducible refine gate_dst (N := 23) rfl ?_); (try (refine gate_guard (by rfl) ?_; dsimp only)); refine goesL_ (some 23) rfl rfl Try.func46 (by kernel_rfl) rfl #[.float .f64 c] rfl (by (try simp only [List.map_toArray, List.map_cons, List.map_nil]); first | done | rfl) ?_; (with_reducible refine (impl_finite2.calls c _).mono ?_); rintro e w2 ⟨rfl, ⟨n_, rfl⟩⟩; rw [h3]; refine ⟨_, rfl, ?_⟩) | ((with_reducible refine gate_callee (f := 46) rfl ?_); (with_reducible refine gate_dst (N := 29) rfl ?_); (try (refine gate_guard (by rfl) ?_; dsimp only)); refine goesL_ (some 29) rfl rfl Try.func46 (by kernel_rfl) rfl #[.float .f64 d] rfl (by (try simp only [List.map_toArray, List.map_cons, List.map_nil]); first | done | rfl) ?_; (with_reducible refine (impl_finite2.calls d _).mono ?_); rintro e w2 ⟨rfl, ⟨n_, rfl⟩⟩; rw [h4]; refine ⟨_, rfl, ?_⟩))
    apply bodyPost_ret
    · simp [results, Try.f23, go_sem] <;> rfl
    · rfl
    · have hq : qok a b c d = false := by simp [qok, h1, h2, h3, h4, z1, z2]
      refine ⟨_, _, by first | (rw [hq]; done) | (rw [hq]; rfl), ?_, ?_⟩
      · unfold qval; first | (rw [hq]; done) | (rw [hq]; rfl)
      · repeat (first | (with_reducible first | exact Below.refl _ _ | apply below_alloc | apply pw_below_drewN | apply below_drew1) | (refine below_set ?_ (by omega)) | exact Below.refl _ _)

/-! ### QuotWide, up to the bits of a NaN -/
def qrep (a b c d : Nat) : Nat × Nat × Bool :=
  if qok a b c d then
    (if qbig c d then (openF .quo .f64 (openF .add .f64 a (openF .mul .f64 b (openF .quo .f64 d c))) (openF .add .f64 c (openF .mul .f64 (openF .quo .f64 d c) d)), openF .quo .f64 (openF .sub .f64 b (openF .mul .f64 a (openF .quo .f64 d c))) (openF .add .f64 c (openF .mul .f64 (openF .quo .f64 d c) d)), true)
     else (openF .quo .f64 (openF .add .f64 (openF .mul .f64 a (openF .quo .f64 c d)) b) (openF .add .f64 d (openF .mul .f64 (openF .quo .f64 c d) c)), openF .quo .f64 (openF .sub .f64 (openF .mul .f64 b (openF .quo .f64 c d)) a) (openF .add .f64 d (openF .mul .f64 (openF .quo .f64 c d) c)), true))
  else (0, 0, false)
theorem qrep_cls (a b c d : Nat) : (cls .f64 (qrep a b c d).1, cls .f64 (qrep a b c d).2.1) = qval a b c d ∧ (qrep a b c d).2.2 = qok a b c d := by
  unfold qrep qval
  cases h : qok a b c d with
  | false => exact ⟨rfl, rfl⟩
  | true =>
    cases h2 : qbig c d with
    | true => simp only [if_true, quot, cls_openF, fA, fS, fM, fQ]; exact ⟨by first | trivial | rfl, by first | trivial | rfl⟩
    | false => simp only [if_true, Bool.false_eq_true, if_false, quot, cls_openF, fA, fS, fM, fQ]; exact ⟨by first | trivial | rfl, by first | trivial | rfl⟩
theorem qbig_cls {c d x y : Nat} (h1 : cls .f64 c = cls .f64 x) (h2 : cls .f64 d = cls .f64 y) : qbig c d = qbig x y := by
  have nan : ∀ {u v : Nat}, cls .f64 u = none → cls .f64 v = none → ∀ t, FloatKind.f64.format.order (u % 9223372036854775808) t = none ∧ FloatKind.f64.format.order t (u % 9223372036854775808) = none := by
    intro u v hu _ t
    have hn : (Ieee.double.read (u % 9223372036854775808)).isNaN = true := by
      rw [read_abs]
      have := cls_none.mp hu
      have h3 : (Ieee.double.read u).isNaN = true := this
      cases hd : Ieee.double.read u with
      | nan s t => rfl
      | infinity s => rw [hd] at h3; cases h3
      | number s m e => rw [hd] at h3; cases h3
    exact ⟨order_nan (.inl hn), order_nan (.inr hn)⟩
  cases hc : cls .f64 c with
  | none =>
    have hx : cls .f64 x = none := h1.symm.trans hc
    unfold qbig
    rw [(nan hc hc _).1, (nan hx hx _).1]
  | some c' =>
    obtain ⟨rfl, _⟩ := cls_some.mp hc
    obtain ⟨rfl, _⟩ := cls_some.mp (h1.symm.trans hc)
    cases hd : cls .f64 d with
    | none =>
      have hy : cls .f64 y = none := h2.symm.trans hd
      unfold qbig
      rw [(nan hd hd _).2, (nan hy hy _).2]
    | some d' =>
      obtain ⟨rfl, _⟩ := cls_some.mp hd
      obtain ⟨rfl, _⟩ := cls_some.mp (h2.symm.trans hd)
      rfl
theorem qok_cls {a b c d x y z u : Nat} (h0 : cls .f64 a = cls .f64 x) (h1 : cls .f64 b = cls .f64 y) (h2 : cls .f64 c = cls .f64 z) (h3 : cls .f64 d = cls .f64 u) : qok a b c d = qok x y z u := by
  unfold qok
  rw [order_cls .f64 c 0, order_cls .f64 d 0, order_cls .f64 z 0, order_cls .f64 u 0, h0, h1, h2, h3]
theorem qval_cls {a b c d x y z u : Nat} (h0 : cls .f64 a = cls .f64 x) (h1 : cls .f64 b = cls .f64 y) (h2 : cls .f64 c = cls .f64 z) (h3 : cls .f64 d = cls .f64 u) : qval a b c d = qval x y z u := by
  unfold qval
  rw [qok_cls h0 h1 h2 h3, qbig_cls h2 h3, h0, h1, h2, h3]
/-- What both contracts of QuotWide come to, told of the plain function. -/
theorem quot_open {F : FuncId} (hF : ∀ (a b c d : Nat) (w : World), Calls Try.prog F #[.agg #[.float .f64 a, .float .f64 b], .agg #[.float .f64 c, .float .f64 d]] w fun e w' =>
      ∃ x y, e = .returned (.tuple #[.agg #[.float .f64 x, .float .f64 y], .bool (qok a b c d)]) ∧ (cls .f64 x, cls .f64 y) = qval a b c d ∧ Below w.heap.size w w')
    (a0 a1 a2 a3 x0 x1 x2 x3 : Nat) (h0 : cls .f64 a0 = cls .f64 x0) (h1 : cls .f64 a1 = cls .f64 x1) (h2 : cls .f64 a2 = cls .f64 x2) (h3 : cls .f64 a3 = cls .f64 x3) (r1 r2 : Nat) (r3 : Bool) (w : World) (h : some (qrep x0 x1 x2 x3) = some (r1, r2, r3)) :
    Calls Try.prog F #[.agg #[.float .f64 a0, .float .f64 a1], .agg #[.float .f64 a2, .float .f64 a3]] w fun e w' =>
      ∃ b1 b2, Aside0 (cls .f64 b1 = cls .f64 r1) ∧ Aside0 (cls .f64 b2 = cls .f64 r2) ∧ e = .returned (.tuple #[.agg #[.float .f64 b1, .float .f64 b2], .bool r3]) ∧ Below w.heap.size w w' := by
  refine (hF a0 a1 a2 a3 w).mono ?_
  rintro e w' ⟨x, y, rfl, hq, hb⟩
  have h := Option.some.inj h
  obtain ⟨k1, k2⟩ := qrep_cls x0 x1 x2 x3
  rw [h] at k1 k2
  have k3 := hq.trans ((qval_cls h0 h1 h2 h3).trans k1.symm)
  have e0 : cls .f64 x = cls .f64 r1 := congrArg Prod.fst k3
  have e1 : cls .f64 y = cls .f64 r2 := congrArg Prod.snd k3
  have e2 : qok a0 a1 a2 a3 = r3 := (qok_cls h0 h1 h2 h3).trans k2.symm
  rw [e2]
  exact ⟨x, y, ⟨e0⟩, ⟨e1⟩, rfl, hb⟩
/-! ### a function value is called -/
section
variable {P : Program} {ops : Array Oper} {Q : Exit → Act → World → Prop}
theorem goesV_ {oi : Oper} {N : Option Tmp} {a : Act} {w : World} {K : Act → World → Prop} {f : FuncId} {fn : Func} {x : Operand} {xs_ : Array Operand} {ts : Array TypeId} (hf : P.funcs[f]? = some fn) (hname : (fn.name == "runtime.NumGoroutine") = false) (hb : fn.body.isSome = true) (args : Array Value)
    (hw : Region.wanted oi (yielded ops a.tmps) = true) (hN : oi.dst = N) (hop : oi.op = .call { callee := .value x, args := xs_, argTypes := ts }) (hx : a.eval x = .func (.func f) #[] #[]) (hargs : xs_.map a.eval = args)
    (h : Calls P f args w fun e w' => ∃ v, e = .returned v ∧ K (a.put N v) w') : if Region.wanted oi (yielded ops a.tmps) = true then Oper.wp P oi a w K Q else K (a.put N undef) w := by
  refine call_ f args hw hN ?_ h
  have he := enters_ hf hname hb args w
  unfold execOp
  simp [hop, resolve, hx, Deferred.ofValue, invoke, hargs, he]
end
/-- Two Wides of one class are the same. -/
theorem laws_eqWide.calls (a b c d : Nat) (w : World) (h1 : cls .f64 a = cls .f64 c) (h2 : cls .f64 b = cls .f64 d) :
    Calls Try.prog 20 #[.agg #[.float .f64 a, .float .f64 b], .agg #[.float .f64 c, .float .f64 d]] w fun e w' => e = .returned (.bool true) ∧ Below w.heap.size w w' := by
  go_enter Try.func20, Try.ntmps20
  go_wp2_with (first | ((with_reducible refine gate_callee (f := 43) rfl ?_); (with_reducible refine gate_dst (N := 9) rfl ?_); (try (refine gate_guard (by rfl) ?_; dsimp only)); refine goesL_ (some 9) rfl rfl Try.func43 (by kernel_rfl) rfl #[.float .f64 a, .float .f64 c] rfl (by (try simp only [List.map_toArray, List.map_cons, List.map_nil]); first | done | rfl) ?_; (with_reducible refine (laws_sameFloat.calls a c _ h1).mono ?_); rintro e w2 ⟨rfl, ⟨n_, rfl⟩⟩; refine ⟨_, rfl, ?_⟩) | ((with_reducible refine gate_callee (f := 43) rfl ?_); (with_reducible refine gate_dst (N := 15) rfl ?_); (try (refine gate_guard (by rfl) ?_; dsimp only)); refine goesL_ (some 15) rfl rfl Try.func43 (by kernel_rfl) rfl #[.float .f64 b, .float .f64 d] rfl (by (try simp only [List.map_toArray, List.map_cons, List.map_nil]); first | done | rfl) ?_; (with_reducible refine (laws_sameFloat.calls b d _ h2).mono ?_); rintro e w2 ⟨rfl, ⟨n_, rfl⟩⟩; refine ⟨_, rfl, ?_⟩))
  go_ret
  exact ⟨rfl, by repeat (first | (with_reducible first | exact Below.refl _ _ | apply below_alloc | apply pw_below_drewN | apply below_drew1) | (refine below_set ?_ (by omega)) | exact Below.refl _ _)⟩
end Go.Proofs.Ytigbdfhlpnabdaa.Hand
