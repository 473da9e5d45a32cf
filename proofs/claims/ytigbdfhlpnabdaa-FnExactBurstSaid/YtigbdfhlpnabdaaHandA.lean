/- Contracts of the functions over floats, walked. -/
import Derived.Test.YtigbdfhlpnabdaaProg
import Derived.Below
import Derived.Deep.Draws
import Derived.Deep.AppendLies
import Derived.Maps.AppendAt
import Derived.OwnWalk
import Derived.Laws.BytesArg
import Derived.Laws.MakeOwn
import Derived.Laws.OwnMore
import Derived.Deep.OwnRows
import Derived.Tactics
import Derived.Lib.ConvBytes
import Derived.Laws.Slices
import Derived.WalkKit
import Derived.KernelRfl
import Derived.RowKit3
import Derived.Deep.LoopGhost
import Derived.Deep.QuietTactic
import Derived.BigQuiet
import Derived.WideLaws
import Derived.Deep.DeepCutAuto
import Derived.Deep.CutBlock
import Derived.Deep.RegionHeld3
import Derived.Laws.Rows
import Derived.Lib.AppendStr
import Derived.ArgAppend
import Derived.Laws.IdiomCopy
import Derived.OrdersHeld
import Derived.Laws.BitsLemmas
import Derived.RowKit
import Derived.Test.YtigbdfhlpnabdaaWWords
import Derived.Test.YtigbdfhlpnabdaaWLast
import Derived.Test.YtigbdfhlpnabdaaWTab
import Derived.Test.YtigbdfhlpnabdaaWFour
import Derived.Test.YtigbdfhlpnabdaaWQPut
import Derived.Test.YtigbdfhlpnabdaaWApart
import Derived.Test.YtigbdfhlpnabdaaWArr
import Derived.Test.YtigbdfhlpnabdaaWZeros
import Derived.Test.YtigbdfhlpnabdaaWFoot
import Derived.Test.YtigbdfhlpnabdaaWKept
import Derived.Test.YtigbdfhlpnabdaaWShare
import Derived.Test.YtigbdfhlpnabdaaWN
import Derived.Test.YtigbdfhlpnabdaaWFootNe
import Derived.Test.YtigbdfhlpnabdaaWAt
import Derived.Test.YtigbdfhlpnabdaaWEqStruct
import Derived.Test.YtigbdfhlpnabdaaWRepsOne
import Derived.Test.YtigbdfhlpnabdaaWInv
import Derived.Test.YtigbdfhlpnabdaaWInvWords
import Derived.Test.YtigbdfhlpnabdaaWGuard
import Derived.Test.YtigbdfhlpnabdaaWNEv
import Derived.Test.YtigbdfhlpnabdaaWMore
import Derived.Outline
import Derived.Lib.Hide
import Derived.Laws.CopyOwn
import Derived.Deep.RegionLaw
import Derived.IntWalk
import Derived.Test.YtigbdfhlpnabdaaFloat
namespace Go.Proofs.Ytigbdfhlpnabdaa.Hand
open Go Go.RowKit Go.Proofs.YtigbdfhlpnabdaaW.PrintWords Go.Proofs.YtigbdfhlpnabdaaW.PrintLast Go.Proofs.YtigbdfhlpnabdaaW.PrintMore Go.Proofs.Ytigbdfhlpnabdaa.Fl
attribute [local go_sem] run_fadd run_fsub run_fmul run_fquo run_widen run_store_float
set_option linter.unusedVariables false
set_option linter.unusedSimpArgs false
theorem blk_at {w : World} {o : Obj} {n : Nat} (h : n = w.heap.size) : (w.alloc o).heap[n]? = some o := by subst h; exact blk_new w o
/-! ### math -/
theorem run62 (b : Nat) (w : World) : (callFunc 62 #[.float .f64 b]).run Try.prog w = .ok (.value (.int .u64 b)) w := by
  rw [run_callFunc_extern Try.func62 (by kernel_rfl) (by kernel_rfl) (by kernel_rfl) (show _ = some Extern.MathFloatBits.float64bits by kernel_rfl)]; rfl
theorem run61 (b : Int) (w : World) : (callFunc 61 #[.int .u64 b]).run Try.prog w = .ok (.value (.float .f64 b.toNat)) w := by
  rw [run_callFunc_extern Try.func61 (by kernel_rfl) (by kernel_rfl) (by kernel_rfl) (show _ = some Extern.MathFloatBits.float64frombits by kernel_rfl)]; rfl
attribute [local go_sem] run61 run62
theorem math_IsNaN.calls (b : Nat) (w : World) : Calls Try.prog 59 #[.float .f64 b] w fun e w' => e = .returned (.bool (cls .f64 b).isNone) ∧ Drawn0 w w' := by
  go_enter Try.func59, Try.ntmps59
  go_wp2
  go_ret
  exact ⟨by rw [← ne_self_nan .f64 b]; rfl, by repeat (first | exact Drawn0.refl _ | apply Drawn0.step)⟩
theorem math_Abs.calls (b : Nat) (w : World) (hb : b < 18446744073709551616) : Calls Try.prog 47 #[.float .f64 b] w fun e w' => e = .returned (.float .f64 (b % 9223372036854775808)) ∧ w' = w := by
  go_enter Try.func47, Try.ntmps47
  go_wp2
  go_ret
  exact ⟨by rw [abs_bits b hb, Int.toNat_natCast]; rfl, rfl⟩

theorem math_IsInf.calls (b : Nat) (w : World) (hb : b < 18446744073709551616) : Calls Try.prog 60 #[.float .f64 b, .int .i64 0] w fun e w' => e = .returned (.bool (Ieee.double.read b).isInfinity) ∧ Drawn0 w w' := by
  go_enter Try.func60, Try.ntmps60
  go_wp2_with (first | ((with_reducible refine gate_callee (f := 47) rfl ?_); (try (refine gate_guard (by rfl) ?_; dsimp only)); refine goesL_ (some 8) rfl rfl Try.func47 (by kernel_rfl) rfl #[.float .f64 b] rfl (by (try simp only [List.map_toArray, List.map_cons, List.map_nil]); first | done | rfl) ?_; (with_reducible refine (math_Abs.calls b _ hb).mono ?_); rintro e w2 ⟨rfl, rfl⟩; refine ⟨_, rfl, ?_⟩))
  go_ret
  exact ⟨by rw [← inf_gt b]; rfl, by repeat (first | exact Drawn0.refl _ | apply Drawn0.step)⟩
theorem impl_finite.calls (b : Nat) (w : World) (hb : b < 18446744073709551616) : Calls Try.prog 46 #[.float .f64 b] w fun e w' => e = .returned (.bool (fin (cls .f64 b))) ∧ Drawn0 w w' := by
  cases hn : (cls .f64 b).isNone with
  | true =>
    go_enter Try.func46, Try.ntmps46
    go_wp2_with (first | ((with_reducible refine gate_callee (f := 59) rfl ?_); (try (refine gate_guard (by rfl) ?_; dsimp only)); refine goesL_ (some 4) rfl rfl Try.func59 (by kernel_rfl) rfl #[.float .f64 b] rfl (by (try simp only [List.map_toArray, List.map_cons, List.map_nil]); first | done | rfl) ?_; (with_reducible refine (math_IsNaN.calls b _).mono ?_); rintro e w2 ⟨rfl, ⟨n_, rfl⟩⟩; rw [hn]; refine ⟨_, rfl, ?_⟩))
    go_ret
    exact ⟨by rw [← fin_both b, hn]; rfl, by repeat (first | exact Drawn0.refl _ | apply Drawn0.step)⟩
  | false =>
    go_enter Try.func46, Try.ntmps46
    go_wp2_with (first | ((with_reducible refine gate_callee (f := 59) rfl ?_); (try (refine gate_guard (by rfl) ?_; dsimp only)); refine goesL_ (some 4) rfl rfl Try.func59 (by kernel_rfl) rfl #[.float .f64 b] rfl (by (try simp only [List.map_toArray, List.map_cons, List.map_nil]); first | done | rfl) ?_; (with_reducible refine (math_IsNaN.calls b _).mono ?_); rintro e w2 ⟨rfl, ⟨n_, rfl⟩⟩; rw [hn]; refine ⟨_, rfl, ?_⟩) | ((with_reducible refine gate_callee (f := 60) rfl ?_); (try (refine gate_guard (by rfl) ?_; dsimp only)); refine goesL_ (some 8) rfl rfl Try.func60 (by kernel_rfl) rfl #[.float .f64 b, .int .i64 0] rfl (by (try simp only [List.map_toArray, List.map_cons, List.map_nil]); first | done | rfl) ?_; (with_reducible refine (math_IsInf.calls b _ hb).mono ?_); rintro e w2 ⟨rfl, ⟨n_, rfl⟩⟩; refine ⟨_, rfl, ?_⟩))
    go_ret
    exact ⟨by rw [← fin_both b, hn]; rfl, by repeat (first | exact Drawn0.refl _ | apply Drawn0.step)⟩
theorem spec_l14Finite.calls (b : Nat) (w : World) : Calls Try.prog 44 #[.float .f64 b] w fun e w' => e = .returned (.bool (fin (cls .f64 b))) ∧ Drawn0 w w' := by
  go_enter Try.func44, Try.ntmps44
  go_wp2
  go_ret
  exact ⟨by rw [← fin_sub b w]; rfl, by repeat (first | exact Drawn0.refl _ | apply Drawn0.step)⟩
theorem unary_fneg (k : FloatKind) (b : Nat) : Op.unary .neg (.float k b) = pure (.float k (Op.negFloat k b)) := rfl
attribute [local go_sem] unary_fneg
theorem spec_l14Size.calls (b : Nat) (w : World) : Calls Try.prog 45 #[.float .f64 b] w fun e w' => e = .returned (.float .f64 (fsize b)) ∧ w' = w := by
  cases hc : (FloatKind.f64.format.order b 0 == some .lt) with
  | true =>
    go_enter Try.func45, Try.ntmps45
    go_wp2
    go_ret
    exact ⟨by unfold fsize; rw [hc]; rfl, rfl⟩
  | false =>
    go_enter Try.func45, Try.ntmps45
    go_wp2
    go_ret
    exact ⟨by unfold fsize; rw [hc]; rfl, rfl⟩
/-- Two floats of one class are the same. -/
theorem laws_sameFloat.calls (a b : Nat) (w : World) (h : cls .f64 a = cls .f64 b) : Calls Try.prog 43 #[.float .f64 a, .float .f64 b] w fun e w' => e = .returned (.bool true) ∧ Drawn0 w w' := by
  have ha := ne_self_nan .f64 a
  have hb := ne_self_nan .f64 b
  cases hn : (cls .f64 a).isNone with
  | true =>
    rw [hn] at ha
    rw [← h, hn] at hb
    go_enter Try.func43, Try.ntmps43
    go_wp2
    go_ret
    exact ⟨by first | rfl | (rw [hb]; done) | (rw [hb]; rfl), by repeat (first | exact Drawn0.refl _ | apply Drawn0.step)⟩
  | false =>
    obtain ⟨x, hx⟩ : ∃ x, cls .f64 a = some x := by cases hc : cls .f64 a with | none => rw [hc] at hn; cases hn | some x => exact ⟨x, rfl⟩
    obtain ⟨e1, hx1⟩ := cls_some.mp hx
    obtain ⟨e2, _⟩ := cls_some.mp (h ▸ hx)
    subst e1
    subst e2
    rw [hn] at ha
    clear hb h hx hn
    have hs := ford_self .f64 b hx1
    cases hz : (FloatKind.f64.format.order b 0 == some .eq) with
    | true =>
      go_enter Try.func43, Try.ntmps43
      go_wp2
      go_ret
      exact ⟨by simp only [order_cls, cls_fres]; simp, by repeat (first | exact Drawn0.refl _ | apply Drawn0.step)⟩
    | false =>
      go_enter Try.func43, Try.ntmps43
      go_wp2
      go_ret
      exact ⟨rfl, by repeat (first | exact Drawn0.refl _ | apply Drawn0.step)⟩
theorem laws_toWide.calls (a b : Nat) (w : World) : Calls Try.prog 22 #[.agg #[.float .f64 a, .float .f64 b]] w fun e w' => e = .returned (.agg #[.float .f64 a, .float .f64 b]) ∧ Below w.heap.size w w' := by
  go_enter Try.func22, Try.ntmps22
  go_wp2
  apply bodyPost_ret
  · simp [results, Try.f22, go_sem]; rfl
  · rfl
  · refine ⟨rfl, ?_⟩
    repeat (first | (with_reducible first | exact Below.refl _ _ | apply below_alloc | apply pw_below_drewN | apply below_drew1) | (refine below_set ?_ (by omega)) | exact Below.refl _ _)

/-! ### events -/
def isArith (op : BinOp) : Bool := match op with | .add | .sub | .mul | .quo => true | _ => false
section
variable {P : Program} {ops : Array Oper} {rest : List Oper} {o : Oper} {a : Act} {Q : Exit → Act → World → Prop}
theorem arith_run {op : BinOp} {t t2 : TypeId} {x y : Operand} {k : FloatKind} {m n : Nat} (ho : o.op = .binOp op t x y t2) (hop : isArith op = true) (hx : a.eval x = .float k m) (hy : a.eval y = .float k n) (W : World) :
    (execOp a.eval o).run P W = .ok (.value (.float k (fres op k m n W))) (W.drewN (fask op k m n)) := by
  have hop2 : op = .add ∨ op = .sub ∨ op = .mul ∨ op = .quo := by cases op <;> simp_all [isArith]
  unfold execOp
  simp only [ho, hx, hy]
  have hg : eqGuard op t x y (.float k m) (.float k n) = pure () := by rcases hop2 with rfl | rfl | rfl | rfl <;> rfl
  simp [hg, run_arith W hop2 t k m n]
/-- '+', '-', '*', '/' of floats: some bits, of which the class is known. -/
theorem arith_event {W : World} {op : BinOp} {t t2 : TypeId} {x y : Operand} {k : FloatKind} {m n : Nat} (hgd : o.guard = none) (ho : o.op = .binOp op t x y t2) (hop : isArith op = true) (hx : a.eval x = .float k m) (hy : a.eval y = .float k n)
    (h : ∀ r q, Aside0 (cls k r = fop op k (cls k m) (cls k n)) → wpList P ops Q rest (a.put o.dst (.float k r)) (W.drewN q)) : wpList P ops Q (o :: rest) a W :=
  Kd.event_run hgd (arith_run ho hop hx hy W) (h _ _ ⟨cls_fres op k m n W⟩)
theorem widen_event {W : World} {s d : TypeId} {x : Operand} {m : Nat} (hgd : o.guard = none) (ho : o.op = .convert s d x) (hs : (P.underlying s).isSome = true) (hd : P.underlying d = some (.float .f64)) (hx : a.eval x = .float .f32 m)
    (h : ∀ r q, Aside0 (cls .f64 r = widen (cls .f32 m)) → wpList P ops Q rest (a.put o.dst (.float .f64 r)) (W.drewN q)) : wpList P ops Q (o :: rest) a W := by
  refine Kd.event_run (w1 := W.drewN (wask m)) (v := .float .f64 (wres m W)) hgd ?_ (h _ _ ⟨cls_wres m W⟩)
  unfold execOp
  simp [ho, hx, run_widen W s d m hs hd]
end
theorem quiet_more {P : Program} {f : FuncId} {args : Array Value} {w : World} {a n : Nat} {v : Value}
    (h : Calls P f args (w.drewN (a + n)) fun e w' => e = .returned v ∧ w' = w.drewN (a + n)) :
    Calls P f args (w.drewN (a + n)) fun e w'' => e = .returned v ∧ ∃ m, w'' = w.drewN (a + m) := h.mono fun _ _ ⟨he, hm⟩ => ⟨he, n, hm⟩
/-! ### QuotWide -/
def qok (a b c d : Nat) : Bool := fin (cls .f64 a) && fin (cls .f64 b) && fin (cls .f64 c) && fin (cls .f64 d) && !((FloatKind.f64.format.order c 0 == some .eq) && (FloatKind.f64.format.order d 0 == some .eq))
def qbig (c d : Nat) : Bool := FloatKind.f64.format.order (c % 9223372036854775808) (d % 9223372036854775808) == some .gt || FloatKind.f64.format.order (c % 9223372036854775808) (d % 9223372036854775808) == some .eq
abbrev fA := fop .add .f64
abbrev fS := fop .sub .f64
abbrev fM := fop .mul .f64
abbrev fQ := fop .quo .f64
def quot (big : Bool) (a b c d : Option Nat) : Option Nat × Option Nat :=
  if big then (fQ (fA a (fM b (fQ d c))) (fA c (fM (fQ d c) d)), fQ (fS b (fM a (fQ d c))) (fA c (fM (fQ d c) d)))
  else (fQ (fA (fM a (fQ c d)) b) (fA d (fM (fQ c d) c)), fQ (fS (fM b (fQ c d)) a) (fA d (fM (fQ c d) c)))
def qval (a b c d : Nat) : Option Nat × Option Nat := if qok a b c d then quot (qbig c d) (cls .f64 a) (cls .f64 b) (cls .f64 c) (cls .f64 d) else (some 0, some 0)
end Go.Proofs.Ytigbdfhlpnabdaa.Hand
