/- Floats as scalars of a row, for texts that begin as printed ones (wip/fprint.py). -/
import Derived.Test.YtigbdfhlpnabdaaFloat
import Derived.Test.YtigbdfhlpnabdaaWFoot
namespace Go.Proofs.YtigbdfhlpnabdaaW.PrintWords.Kd
open Go
/-- A float, its bits told. -/
def fl (k : FloatKind) : Kd Nat := scalar (Value.float k) (fun _ => rfl)
theorem at_fl {w : World} {A : Option Addr} {n : Nat} {k : FloatKind} {xs : List Nat} (h : (Kd.fl k).C w A n xs) (i : Int) (h0 : 0 ≤ i) (h1 : i < n) : ∃ ad, A = some ad ∧ w.cell? (ad.add i.toNat) = some (.float k (rdOf (0 : Nat) xs i)) :=
  ReadsOf.at_ (reads_of_C (enc := Value.float k) (d := (0 : Nat)) (h1 := fun _ => rfl) h) i h0 h1
theorem heap_fl (k : FloatKind) : Heap (Kd.fl k) := ⟨fun _ h => h⟩
end Go.Proofs.YtigbdfhlpnabdaaW.PrintWords.Kd
namespace Go.Proofs.Ytigbdfhlpnabdaa.Fl
open Go
@[go_sem] theorem store_float_sem {P : Program} (w : World) (a : Addr) (m : Mode) (k : FloatKind) (b : Nat) : (store a (.float k b) m).run P w = stored P w a (.float k b) m := run_store_float w a m k b
@[go_sem] theorem unary_fneg_sem (k : FloatKind) (b : Nat) : Op.unary .neg (.float k b) = pure (.float k (Op.negFloat k b)) := rfl
end Go.Proofs.Ytigbdfhlpnabdaa.Fl
namespace Go.Proofs.Ytigbdfhlpnabdaa.Fl
open Go
def qnan (k : FloatKind) : Nat := match k with | .f32 => 2143289344 | .f64 => 9221120237041090560
theorem qnan_nan (k : FloatKind) : (k.format.read (qnan k)).isNaN = true := by cases k <;> rfl
/-- An operation made a function: one NaN stands for all. -/
def openF (op : BinOp) (k : FloatKind) (x y : Nat) : Nat := match floatBits op k x y with | some r => r | none => qnan k
theorem cls_openF (op : BinOp) (k : FloatKind) (a b : Nat) : cls k (openF op k a b) = fop op k (cls k a) (cls k b) := by
  cases hr : floatBits op k a b with
  | some r =>
    obtain ⟨h1, h2, h3⟩ := floatBits_nan hr
    have e1 : cls k a = some a := cls_some.mpr ⟨rfl, h1⟩
    have e2 : cls k b = some b := cls_some.mpr ⟨rfl, h2⟩
    rw [e1, e2]
    simp only [fop, openF, hr]
    exact cls_some.mpr ⟨rfl, h3⟩
  | none =>
    have e0 : cls k (openF op k a b) = none := by
      simp only [openF, hr]
      exact cls_none.mpr (qnan_nan k)
    rw [e0]
    cases ha : cls k a with
    | none => rfl
    | some a' =>
      cases hb : cls k b with
      | none => rfl
      | some b' =>
        obtain ⟨rfl, _⟩ := cls_some.mp ha
        obtain ⟨rfl, _⟩ := cls_some.mp hb
        simp [fop, hr]
end Go.Proofs.Ytigbdfhlpnabdaa.Fl
namespace Go.Proofs.YtigbdfhlpnabdaaW.PrintWords
open Go Go.Proofs.Ytigbdfhlpnabdaa.Fl
def open_add_f32 (x y : Nat) : Nat := openF .add .f32 x y
def open_sub_f32 (x y : Nat) : Nat := openF .sub .f32 x y
def open_add_f64 (x y : Nat) : Nat := openF .add .f64 x y
def open_sub_f64 (x y : Nat) : Nat := openF .sub .f64 x y
def open_mul_f64 (x y : Nat) : Nat := openF .mul .f64 x y
def open_quo_f64 (x y : Nat) : Nat := openF .quo .f64 x y
def open_conv_f64 (x : Nat) : Nat := match floatToFloatBits .f32 x .f64 with | some r => r | none => qnan .f64
theorem cls_add32 (x y : Nat) : cls .f32 (open_add_f32 x y) = fop .add .f32 (cls .f32 x) (cls .f32 y) := cls_openF ..
theorem cls_sub32 (x y : Nat) : cls .f32 (open_sub_f32 x y) = fop .sub .f32 (cls .f32 x) (cls .f32 y) := cls_openF ..
theorem cls_add64 (x y : Nat) : cls .f64 (open_add_f64 x y) = fop .add .f64 (cls .f64 x) (cls .f64 y) := cls_openF ..
theorem cls_sub64 (x y : Nat) : cls .f64 (open_sub_f64 x y) = fop .sub .f64 (cls .f64 x) (cls .f64 y) := cls_openF ..
theorem cls_mul64 (x y : Nat) : cls .f64 (open_mul_f64 x y) = fop .mul .f64 (cls .f64 x) (cls .f64 y) := cls_openF ..
theorem cls_quo64 (x y : Nat) : cls .f64 (open_quo_f64 x y) = fop .quo .f64 (cls .f64 x) (cls .f64 y) := cls_openF ..
theorem cls_conv64 (x : Nat) : cls .f64 (open_conv_f64 x) = widen (cls .f32 x) := by
  cases hb : (Ieee.single.read x).isNaN with
  | true =>
    have e : cls .f32 x = none := cls_none.mpr hb
    rw [e]
    unfold open_conv_f64
    rw [wide_none hb]
    exact cls_none.mpr (qnan_nan .f64)
  | false =>
    have e : cls .f32 x = some x := cls_some.mpr ⟨rfl, hb⟩
    obtain ⟨r, hr, hn⟩ := wide_some hb
    rw [e]
    unfold open_conv_f64
    simp only [widen, hr]
    exact cls_some.mpr ⟨rfl, hn⟩
end Go.Proofs.YtigbdfhlpnabdaaW.PrintWords
