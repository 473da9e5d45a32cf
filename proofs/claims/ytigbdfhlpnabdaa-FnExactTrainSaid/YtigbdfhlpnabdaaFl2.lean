/- Floats as scalars of a row, for texts that begin as printed ones (wip/fprint.py). -/
import Derived.Test.YtigbdfhlpnabdaaFloat
import Derived.Test.YtigbdfhlpnabdaaWFoot
namespace Go.Proofs.YtigbdfhlpnabdaaW.PrintWords.Kd
open Go
/-- A float, its bits told. -/
def fl (k : FloatKind) : Kd Nat := scalar (Value.float k) (fun _ => rfl)
theorem at_fl {w : World} {A : Option Addr} {n : Nat} {k : FloatKind} {xs : List Nat} (h : (Kd.fl k).C w A n xs) (i : Int) (h0 : 0 ≤ i) (h1 : i < n) : ∃ ad, A = some ad ∧ w.cell? (ad.add i.toNat) = some (.float k (rdOf (0 : Nat) xs i)) :=
  ReadsOf.at_ (reads_of_C (enc := Value.float k) (d := (0 : Nat)) (h1 := fun _ => rfl) h) i h0 h1
theorem heap_fl (k : FloatKind) : Heap (Kd.fl k) := ⟨fun _ h => h⟩
end Go.Proofs.YtigbdfhlpnabdaaW.PrintWords.Kd
namespace Go.Proofs.Ytigbdfhlpnabdaa.Fl
open Go
@[go_sem] theorem store_float_sem {P : Program} (w : World) (a : Addr) (m : Mode) (k : FloatKind) (b : Nat) : (store a (.float k b) m).run P w = stored P w a (.float k b) m := run_store_float w a m k b
@[go_sem] theorem unary_fneg_sem (k : FloatKind) (b : Nat) : Op.unary .neg (.float k b) = pure (.float k (Op.negFloat k b)) := rfl
end Go.Proofs.Ytigbdfhlpnabdaa.Fl
