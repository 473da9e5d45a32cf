/- Floats: what '+', '-', '*', '/' and the conversions give, up to the bits of a NaN, which the model draws; and when two floats are the same. -/
import Derived.WalkLawsBesides
import Derived.Deep.Draws
import Derived.Laws.BitsAllLaws
import Derived.Test.YtigbdfhlpnabdaaWWords
namespace Go.Proofs.Ytigbdfhlpnabdaa.Fl
open Go
set_option linter.unusedVariables false
set_option linter.unusedSimpArgs false
/-- A float's class: its bits; one class for all NaNs. -/
def cls (k : FloatKind) (b : Nat) : Option Nat := if (k.format.read b).isNaN then none else some b
/-- An operation on classes. -/
def fop (op : BinOp) (k : FloatKind) (x y : Option Nat) : Option Nat := match x, y with | some a, some b => floatBits op k a b | _, _ => none
/-- The bits that the operation gives in this world. -/
def fres (op : BinOp) (k : FloatKind) (a b : Nat) (w : World) : Nat := match floatBits op k a b with | some r => r | none => (Question.nanBits k a b).cut (w.tape w.drawn (.nanBits k a b))
/-- How often it asks. -/
def fask (op : BinOp) (k : FloatKind) (a b : Nat) : Nat := if (floatBits op k a b).isSome then 0 else 1
theorem run_store_float {P : Program} (w : World) (a : Addr) (m : Mode) (k : FloatKind) (b : Nat) : (store a (.float k b) m).run P w = stored P w a (.float k b) m := run_store P w a _ m rfl
section
variable {P : Program} (w : World)
theorem run_arith {op : BinOp} (h : op = .add ∨ op = .sub ∨ op = .mul ∨ op = .quo) (t : TypeId) (k : FloatKind) (a b : Nat) :
    (binOp op t (.float k a) (.float k b)).run P w = .ok (.float k (fres op k a b w)) (w.drewN (fask op k a b)) := by
  cases hr : floatBits op k a b with
  | some r =>
    rw [run_float_arith w op t k a b r hr]
    simp [fres, fask, hr]
    rfl
  | none =>
    have hq : (Question.nanBits k a b).forced = false := rfl
    rcases h with rfl | rfl | rfl | rfl <;> simp only [floatBits] at hr <;> simp [binOp, Op.floatArith, hr, fres, fask, floatBits, hq] <;> rfl
theorem run_fadd (t : TypeId) (k : FloatKind) (a b : Nat) : (binOp .add t (.float k a) (.float k b)).run P w = .ok (.float k (fres .add k a b w)) (w.drewN (fask .add k a b)) := run_arith w (by simp) t k a b
theorem run_fsub (t : TypeId) (k : FloatKind) (a b : Nat) : (binOp .sub t (.float k a) (.float k b)).run P w = .ok (.float k (fres .sub k a b w)) (w.drewN (fask .sub k a b)) := run_arith w (by simp) t k a b
theorem run_fmul (t : TypeId) (k : FloatKind) (a b : Nat) : (binOp .mul t (.float k a) (.float k b)).run P w = .ok (.float k (fres .mul k a b w)) (w.drewN (fask .mul k a b)) := run_arith w (by simp) t k a b
theorem run_fquo (t : TypeId) (k : FloatKind) (a b : Nat) : (binOp .quo t (.float k a) (.float k b)).run P w = .ok (.float k (fres .quo k a b w)) (w.drewN (fask .quo k a b)) := run_arith w (by simp) t k a b
end
/-! ### classes -/
theorem binade_pos (f : Ieee.Format) : 0 < f.binade := Nat.two_pow_pos _
theorem read_word_nan (f : Ieee.Format) (neg : Bool) {rung : Nat} (h : rung ≤ f.infRung) : (f.read (f.word neg rung)).isNaN = false := by
  have h1 := f.infRung_lt
  have hm : f.word neg rung % f.signWeight = rung := by
    unfold Ieee.Format.word
    split
    · rw [Nat.add_mod_left]; exact Nat.mod_eq_of_lt (by omega)
    · exact Nat.mod_eq_of_lt (by omega)
  unfold Ieee.Format.read
  simp only [hm]
  split
  · rfl
  · split
    · rfl
    · rw [if_pos (by omega)]; rfl
theorem read_write_nan (f : Ieee.Format) {d : Ieee.Datum} (h : d.isNaN = false) : (f.read (f.write d)).isNaN = false := by
  cases d with
  | number s m e =>
    unfold Ieee.Format.write Ieee.Format.nearest
    dsimp only
    split
    · exact read_word_nan f s (Nat.zero_le _)
    · exact read_word_nan f s (Nat.min_le_right ..)
  | infinity s => exact read_word_nan f s (Nat.le_refl _)
  | nan s t => cases h
theorem sum_nan {x y z : Ieee.Datum} (h : x.sum y = some z) : x.isNaN = false ∧ y.isNaN = false ∧ z.isNaN = false := by
  unfold Ieee.Datum.sum at h
  split at h
  · cases h
  · cases h
  · split at h
    · cases h; exact ⟨rfl, rfl, rfl⟩
    · cases h
  · cases h; exact ⟨rfl, rfl, rfl⟩
  · cases h; exact ⟨rfl, rfl, rfl⟩
  · cases h; exact ⟨rfl, rfl, rfl⟩
theorem product_nan {x y z : Ieee.Datum} (h : x.product y = some z) : x.isNaN = false ∧ y.isNaN = false ∧ z.isNaN = false := by
  unfold Ieee.Datum.product at h
  split at h
  · cases h
  · cases h
  · cases h; exact ⟨rfl, rfl, rfl⟩
  · split at h
    · cases h
    · cases h; exact ⟨rfl, rfl, rfl⟩
  · split at h
    · cases h
    · cases h; exact ⟨rfl, rfl, rfl⟩
  · cases h; exact ⟨rfl, rfl, rfl⟩
theorem quotient_nan {n : Nat} {x y z : Ieee.Datum} (h : x.quotient n y = some z) : x.isNaN = false ∧ y.isNaN = false ∧ z.isNaN = false := by
  unfold Ieee.Datum.quotient at h
  split at h
  · cases h
  · cases h
  · cases h
  · cases h; exact ⟨rfl, rfl, rfl⟩
  · cases h; exact ⟨rfl, rfl, rfl⟩
  · split at h
    · split at h
      · cases h
      · cases h; exact ⟨rfl, rfl, rfl⟩
    · cases h; exact ⟨rfl, rfl, rfl⟩
theorem opp_nan {x : Ieee.Datum} : x.opposite.isNaN = x.isNaN := by cases x <;> rfl
theorem floatBits_nan {op : BinOp} {k : FloatKind} {a b r : Nat} (h : floatBits op k a b = some r) : (k.format.read a).isNaN = false ∧ (k.format.read b).isNaN = false ∧ (k.format.read r).isNaN = false := by
  unfold floatBits at h
  split at h
  · obtain ⟨d, hd, rfl⟩ := Option.map_eq_some_iff.mp h
    obtain ⟨h1, h2, h3⟩ := sum_nan hd
    exact ⟨h1, h2, read_write_nan _ h3⟩
  · obtain ⟨d, hd, rfl⟩ := Option.map_eq_some_iff.mp h
    obtain ⟨h1, h2, h3⟩ := sum_nan hd
    exact ⟨h1, opp_nan.symm.trans h2, read_write_nan _ h3⟩
  · obtain ⟨d, hd, rfl⟩ := Option.map_eq_some_iff.mp h
    obtain ⟨h1, h2, h3⟩ := product_nan hd
    exact ⟨h1, h2, read_write_nan _ h3⟩
  · obtain ⟨d, hd, rfl⟩ := Option.map_eq_some_iff.mp h
    obtain ⟨h1, h2, h3⟩ := quotient_nan hd
    exact ⟨h1, h2, read_write_nan _ h3⟩
  · cases h
theorem nan_word (f : Ieee.Format) (s r : Nat) (h0 : f.binade ≤ f.infRung) (h1 : f.infRung < r) (h2 : r < f.signWeight) : (f.read (s % 2 * f.signWeight + r)).isNaN = true := by
  have hm : (s % 2 * f.signWeight + r) % f.signWeight = r := by
    rw [Nat.add_comm, Nat.add_mul_mod_self_right]; exact Nat.mod_eq_of_lt h2
  unfold Ieee.Format.read
  simp only [hm]
  rw [if_neg (Nat.not_lt.mpr (Nat.le_of_lt (Nat.lt_of_le_of_lt h0 h1))), if_neg (Nat.not_lt.mpr (Nat.le_of_lt h1)), if_neg (Nat.ne_of_gt h1)]
  rfl
theorem single_sw : Ieee.single.signWeight = 2147483648 := by rfl
theorem single_inf : Ieee.single.infRung = 2139095040 := by rfl
theorem double_sw : Ieee.double.signWeight = 9223372036854775808 := by rfl
theorem double_inf : Ieee.double.infRung = 9218868437227405312 := by rfl
theorem nan32 (n : Nat) : (Ieee.single.read ((n % 2) * 2147483648 + 2139095040 + 1 + (n / 2) % 8388607)).isNaN = true := by
  have h := nan_word Ieee.single n (2139095041 + (n / 2) % 8388607) (by decide) (by rw [single_inf]; omega) (by rw [single_sw]; have := Nat.mod_lt (n / 2) (show 0 < 8388607 by decide); omega)
  rw [single_sw] at h
  rw [Nat.add_assoc (n % 2 * 2147483648), Nat.add_assoc (n % 2 * 2147483648)]
  exact h
theorem nan64 (n : Nat) : (Ieee.double.read ((n % 2) * 9223372036854775808 + 9218868437227405312 + 1 + (n / 2) % 4503599627370495)).isNaN = true := by
  have h := nan_word Ieee.double n (9218868437227405313 + (n / 2) % 4503599627370495) (by decide) (by rw [double_inf]; omega) (by rw [double_sw]; have := Nat.mod_lt (n / 2) (show 0 < 4503599627370495 by decide); omega)
  rw [double_sw] at h
  rw [Nat.add_assoc (n % 2 * 9223372036854775808), Nat.add_assoc (n % 2 * 9223372036854775808)]
  exact h
theorem cut_nan (k : FloatKind) (a b n : Nat) : (k.format.read ((Question.nanBits k a b).cut n)).isNaN = true := by
  cases k
  · exact nan32 n
  · exact nan64 n
theorem cutc_nan (k : FloatKind) (b n : Nat) : (k.format.read ((Question.nanConv k b).cut n)).isNaN = true := by
  cases k
  · exact nan32 n
  · exact nan64 n
theorem cls_none {k : FloatKind} {b : Nat} : cls k b = none ↔ (k.format.read b).isNaN = true := by unfold cls; split <;> simp_all
theorem cls_some {k : FloatKind} {b x : Nat} : cls k b = some x ↔ b = x ∧ (k.format.read x).isNaN = false := by
  unfold cls; split
  · rename_i h
    simp
    rintro rfl
    exact h
  · rename_i h
    simp
    rintro rfl
    simpa using h
/-- WHAT AN OPERATION GIVES, as a class. -/
theorem cls_fres (op : BinOp) (k : FloatKind) (a b : Nat) (w : World) : cls k (fres op k a b w) = fop op k (cls k a) (cls k b) := by
  cases hr : floatBits op k a b with
  | some r =>
    obtain ⟨h1, h2, h3⟩ := floatBits_nan hr
    have e1 : cls k a = some a := cls_some.mpr ⟨rfl, h1⟩
    have e2 : cls k b = some b := cls_some.mpr ⟨rfl, h2⟩
    rw [e1, e2]
    simp only [fop, fres, hr]
    exact cls_some.mpr ⟨rfl, h3⟩
  | none =>
    have e0 : cls k (fres op k a b w) = none := by
      simp only [fres, hr]
      exact cls_none.mpr (cut_nan k a b _)
    rw [e0]
    cases ha : cls k a with
    | none => rfl
    | some a' =>
      cases hb : cls k b with
      | none => rfl
      | some b' =>
        obtain ⟨rfl, _⟩ := cls_some.mp ha
        obtain ⟨rfl, _⟩ := cls_some.mp hb
        simp [fop, hr]
/-! ### comparisons -/
def ford (k : FloatKind) (x y : Option Nat) : Option Ordering := match x, y with | some a, some b => k.format.order a b | _, _ => none
theorem order_nan {x y : Ieee.Datum} (h : x.isNaN = true ∨ y.isNaN = true) : x.order y = none := by
  cases x <;> cases y <;> simp_all [Ieee.Datum.isNaN, Ieee.Datum.order]
theorem order_cls (k : FloatKind) (a b : Nat) : k.format.order a b = ford k (cls k a) (cls k b) := by
  cases ha : cls k a with
  | none => exact order_nan (.inl (cls_none.mp ha))
  | some a' =>
    obtain ⟨rfl, _⟩ := cls_some.mp ha
    cases hb : cls k b with
    | none => exact order_nan (.inr (cls_none.mp hb))
    | some b' =>
      obtain ⟨rfl, _⟩ := cls_some.mp hb
      rfl
theorem compare_self (n : Int) : compare n n = .eq := by simp
theorem order_self {x : Ieee.Datum} (h : x.isNaN = false) : x.order x = some .eq := by
  cases x with
  | number s m e => simp [Ieee.Datum.order]
  | infinity s => simp [Ieee.Datum.order]
  | nan s t => cases h
theorem ford_self (k : FloatKind) (b : Nat) (h : (k.format.read b).isNaN = false) : k.format.order b b = some .eq := order_self h
/-! ### the two kinds -/
/-- float64(x) of a float32: its bits in this world. -/
def wres (b : Nat) (w : World) : Nat := match floatToFloatBits .f32 b .f64 with | some r => r | none => (Question.nanConv .f64 b).cut (w.tape w.drawn (.nanConv .f64 b))
def wask (b : Nat) : Nat := if (floatToFloatBits .f32 b .f64).isSome then 0 else 1
/-- A float32, as a class, made a float64. -/
def widen (x : Option Nat) : Option Nat := match x with | some b => floatToFloatBits .f32 b .f64 | none => none
theorem log2_le {m n : Nat} (h0 : m ≠ 0) (h : m < 2 ^ n) : m.log2 < n := (Nat.log2_lt h0).mpr h
theorem cut_zero (neg : Bool) (n : Nat) : Ieee.Toward.even.cut neg n 0 = n := by
  unfold Ieee.Toward.cut
  simp [Nat.mod_one]
theorem read_word_inf (f : Ieee.Format) (neg : Bool) {rung : Nat} (h : rung < f.infRung) : (f.read (f.word neg rung)).isInfinity = false := by
  have h1 := f.infRung_lt
  have hm : f.word neg rung % f.signWeight = rung := by
    unfold Ieee.Format.word
    split
    · rw [Nat.add_mod_left]; exact Nat.mod_eq_of_lt (by omega)
    · exact Nat.mod_eq_of_lt (by omega)
  unfold Ieee.Format.read
  simp only [hm]
  split
  · rfl
  · rfl
theorem pow53 : (2 : Nat) ^ 53 = 9007199254740992 := by rfl
theorem shl_lt (m : Nat) (h : m.log2 ≤ 52) : m <<< (52 - m.log2) < 9007199254740992 := by
  rw [Nat.shiftLeft_eq, ← pow53]
  have hlt : m < 2 ^ (m.log2 + 1) := Nat.lt_log2_self
  have e : 2 ^ (m.log2 + 1) * 2 ^ (52 - m.log2) = 2 ^ 53 := by
    rw [← Nat.pow_add]
    exact congrArg (2 ^ ·) (by omega)
  rw [← e]
  exact Nat.mul_lt_mul_of_pos_right hlt (Nat.two_pow_pos _)
/-- A number of the narrow kind is none too great for the wide one. -/
theorem wide_fits {s : Bool} {m : Nat} {e : Int} (hm : m < 2 ^ 24) (he : -149 ≤ e) (he2 : e ≤ 104) : (Ieee.double.read (Ieee.double.write (.number s m e))).isInfinity = false := by
  have h2 := double_inf
  have h3 : Ieee.double.binade = 4503599627370496 := by rfl
  have h4 : Ieee.double.leastPlace = -1074 := by rfl
  have h5 : Ieee.double.fractionBits = 52 := rfl
  unfold Ieee.Format.write Ieee.Format.nearest
  dsimp only
  split
  · exact read_word_inf _ s (by rw [h2]; omega)
  · rename_i h0
    have hl : m.log2 < 24 := log2_le h0 hm
    have hlast : max (e + ↑m.log2 - ↑Ieee.double.fractionBits) Ieee.double.leastPlace = e + m.log2 - 52 := by
      rw [h4, h5]; omega
    rw [hlast]
    have hd : (e + ↑m.log2 - 52 - e).toNat = 0 := by omega
    have hu : (e - (e + ↑m.log2 - 52)).toNat = 52 - m.log2 := by omega
    rw [hd, hu, cut_zero]
    have hk : m <<< (52 - m.log2) < 9007199254740992 := shl_lt m (by omega)
    clear hm hlast hd hu
    refine read_word_inf _ s ?_
    rw [h2, h3, h4]
    have hr : (e + ↑m.log2 - 52 - -1074).toNat ≤ 1149 := by omega
    generalize (e + ↑m.log2 - 52 - -1074).toNat = q at hr ⊢
    generalize m <<< (52 - m.log2) = z at hk ⊢
    omega
theorem read_single {b m : Nat} {s : Bool} {e : Int} (h : Ieee.single.read b = .number s m e) : m < 2 ^ 24 ∧ -149 ≤ e ∧ e ≤ 104 := by
  have h1 := single_sw
  have h2 := single_inf
  have h3 : Ieee.single.binade = 8388608 := by rfl
  have h4 : Ieee.single.leastPlace = -149 := by rfl
  unfold Ieee.Format.read at h
  simp only [h1, h2, h3, h4] at h
  split at h
  · injection h with _ hm he
    subst hm; subst he
    omega
  · split at h
    · injection h with _ hm he
      subst hm; subst he
      omega
    · split at h <;> cases h
theorem wide_some {b : Nat} (h : (Ieee.single.read b).isNaN = false) : ∃ r, floatToFloatBits .f32 b .f64 = some r ∧ (Ieee.double.read r).isNaN = false := by
  unfold floatToFloatBits
  rw [if_neg (by decide)]
  show ∃ r, (match Ieee.single.read b with | .nan _ _ => none | .infinity s => some (Ieee.double.write (.infinity s)) | .number s m e => if (Ieee.double.read (Ieee.double.write (.number s m e))).isInfinity then none else some (Ieee.double.write (.number s m e))) = some r ∧ _
  cases hd : Ieee.single.read b with
  | nan s t => rw [hd] at h; cases h
  | infinity s => exact ⟨_, rfl, read_write_nan _ rfl⟩
  | number s m e =>
    obtain ⟨g1, g2, g3⟩ := read_single hd
    have := wide_fits (s := s) g1 g2 g3
    exact ⟨_, if_neg (by simp [this]), read_write_nan _ rfl⟩
theorem wide_none {b : Nat} (h : (Ieee.single.read b).isNaN = true) : floatToFloatBits .f32 b .f64 = none := by
  unfold floatToFloatBits
  rw [if_neg (by decide)]
  show (match Ieee.single.read b with | .nan _ _ => none | .infinity s => some (Ieee.double.write (.infinity s)) | .number s m e => if (Ieee.double.read (Ieee.double.write (.number s m e))).isInfinity then none else some (Ieee.double.write (.number s m e))) = none
  cases hd : Ieee.single.read b with
  | nan s t => rfl
  | infinity s => rw [hd] at h; cases h
  | number s m e => rw [hd] at h; cases h
theorem cls_wres (b : Nat) (w : World) : cls .f64 (wres b w) = widen (cls .f32 b) := by
  cases hb : (Ieee.single.read b).isNaN with
  | true =>
    have e : cls .f32 b = none := cls_none.mpr hb
    rw [e]
    unfold wres
    rw [wide_none hb]
    exact cls_none.mpr (cutc_nan .f64 b _)
  | false =>
    have e : cls .f32 b = some b := cls_some.mpr ⟨rfl, hb⟩
    obtain ⟨r, hr, hn⟩ := wide_some hb
    rw [e]
    unfold wres
    simp only [widen, hr]
    exact cls_some.mpr ⟨rfl, hn⟩
theorem run_widen {P : Program} (w : World) (src dst : TypeId) (b : Nat) (hs : (P.underlying src).isSome = true) (hd : P.underlying dst = some (.float .f64)) :
    (convert src dst (.float .f32 b)).run P w = .ok (.float .f64 (wres b w)) (w.drewN (wask b)) := by
  cases hr : floatToFloatBits .f32 b .f64 with
  | some r =>
    rw [run_convert_float_float w src dst .f32 .f64 b r hs hd hr]
    simp [wres, wask, hr]
    rfl
  | none =>
    have hn : (Ieee.single.read b).isNaN = true := by
      cases h : (Ieee.single.read b).isNaN with
      | true => rfl
      | false => obtain ⟨r, h1, _⟩ := wide_some h; rw [hr] at h1; cases h1
    obtain ⟨u, hs'⟩ := Option.isSome_iff_exists.1 hs
    have hq : (Question.nanConv .f64 b).forced = false := rfl
    cases hd2 : Ieee.single.read b with
    | infinity s => rw [hd2] at hn; cases hn
    | number s m e => rw [hd2] at hn; cases hn
    | nan s t =>
      have hd3 : FloatKind.f32.decode b = .nan s t := hd2
      cases u <;> simp [convert, run_underlying hs', run_underlying hd, Conv.floatToFloat, hd3, wres, wask, hr, hq] <;> rfl
/-! ### sign, size, finiteness -/
theorem pow_neg (k : FloatKind) : 2 ^ (k.format.exponentBits + k.format.fractionBits) = k.format.signWeight := rfl
/-- The sign bit turned. -/
theorem read_neg (k : FloatKind) (b : Nat) : k.format.read (Op.negFloat k b) = (k.format.read b).opposite := by
  have h0 : 0 < k.format.signWeight := Nat.two_pow_pos _
  have hm : Op.negFloat k b % k.format.signWeight = b % k.format.signWeight := by
    unfold Op.negFloat Ieee.Format.signWeight
    rw [Nat.xor_mod_two_pow, Nat.mod_self, Nat.xor_zero]
  have hd : (Op.negFloat k b / k.format.signWeight % 2 == 1) = !(b / k.format.signWeight % 2 == 1) := by
    unfold Op.negFloat Ieee.Format.signWeight
    rw [Nat.xor_div_two_pow, Nat.div_self (Nat.two_pow_pos _)]
    have h1 := @Nat.xor_mod_two_pow (b / 2 ^ (k.format.exponentBits + k.format.fractionBits)) 1 1
    rw [Nat.pow_one] at h1
    rw [h1]
    rcases Nat.mod_two_eq_zero_or_one (b / 2 ^ (k.format.exponentBits + k.format.fractionBits)) with h | h <;> rw [h] <;> rfl
  unfold Ieee.Format.read
  simp only [hm, hd]
  split
  · rfl
  · split
    · rfl
    · split <;> rfl
/-- The sign bit taken away. -/
theorem read_abs (b : Nat) : Ieee.double.read (b % 9223372036854775808) = match Ieee.double.read b with | .number _ m e => .number false m e | .infinity _ => .infinity false | .nan _ t => .nan false t := by
  have hm : b % 9223372036854775808 % Ieee.double.signWeight = b % Ieee.double.signWeight := by rw [double_sw]; exact Nat.mod_mod _ _
  have hd : b % 9223372036854775808 / Ieee.double.signWeight = 0 := by rw [double_sw]; exact Nat.div_eq_of_lt (Nat.mod_lt _ (by decide))
  unfold Ieee.Format.read
  simp only [hm, hd]
  split
  · rfl
  · split
    · rfl
    · split <;> rfl
theorem cls_neg (k : FloatKind) (b : Nat) : cls k (Op.negFloat k b) = (cls k b).map (Op.negFloat k) := by
  unfold cls
  rw [read_neg, opp_nan]
  split <;> rfl
/-- Neither a NaN nor an infinity. -/
def fin (x : Option Nat) : Bool := match x with | none => false | some b => match Ieee.double.read b with | .number .. => true | _ => false
theorem fin_number {b : Nat} (h : fin (cls .f64 b) = true) : ∃ s m e, Ieee.double.read b = .number s m e := by
  unfold cls at h
  split at h
  · cases h
  · unfold fin at h
    dsimp only at h
    split at h
    · rename_i s m e hd; exact ⟨s, m, e, hd⟩
    · cases h
theorem fin_true {b : Nat} {s : Bool} {m : Nat} {e : Int} (h : Ieee.double.read b = .number s m e) : fin (cls .f64 b) = true := by
  have : cls .f64 b = some b := cls_some.mpr ⟨rfl, by show (Ieee.double.read b).isNaN = false; rw [h]; rfl⟩
  rw [this]
  unfold fin
  simp [h]
theorem fin_inf {b : Nat} {s : Bool} (h : Ieee.double.read b = .infinity s) : fin (cls .f64 b) = false := by
  have : cls .f64 b = some b := cls_some.mpr ⟨rfl, by show (Ieee.double.read b).isNaN = false; rw [h]; rfl⟩
  rw [this]
  unfold fin
  simp [h]
theorem fin_nan {b s t} (h : Ieee.double.read b = .nan s t) : fin (cls .f64 b) = false := by
  have : cls .f64 b = none := cls_none.mpr (by show (Ieee.double.read b).isNaN = true; rw [h]; rfl)
  rw [this]
  rfl
theorem read_zero : Ieee.double.read 0 = .number false 0 Ieee.double.leastPlace := by rfl
theorem ne_self_nan (k : FloatKind) (b : Nat) : (k.format.order b b != some .eq) = (cls k b).isNone := by
  cases h : (k.format.read b).isNaN with
  | true =>
    rw [cls_none.mpr h]
    have : k.format.order b b = none := order_nan (.inl h)
    rw [this]; rfl
  | false =>
    rw [cls_some.mpr ⟨rfl, h⟩, ford_self k b h]; rfl
theorem sum_opp {s : Bool} {m : Nat} {e : Int} : (Ieee.Datum.number s m e).sum (Ieee.Datum.number s m e).opposite = some (.number false 0 e) := by
  have h1 : (m : Int) + -m = 0 := by omega
  have h2 : -(m : Int) + m = 0 := by omega
  cases s <;> simp [Ieee.Datum.sum, Ieee.Datum.opposite, Ieee.signed, h1, h2]
theorem fin_sub (b : Nat) (w : World) : (FloatKind.f64.format.order (fres .sub .f64 b b w) 0 == some .eq) = fin (cls .f64 b) := by
  rw [order_cls, cls_fres]
  cases hd : Ieee.double.read b with
  | nan s t =>
    rw [fin_nan hd, cls_none.mpr (by show (Ieee.double.read b).isNaN = true; rw [hd]; rfl)]
    rfl
  | infinity s =>
    rw [fin_inf hd]
    have hc : cls .f64 b = some b := cls_some.mpr ⟨rfl, by show (Ieee.double.read b).isNaN = false; rw [hd]; rfl⟩
    rw [hc]
    have : fop .sub .f64 (some b) (some b) = none := by
      show (((Ieee.double.read b).sum (Ieee.double.read b).opposite).map Ieee.double.write) = none
      rw [hd]
      cases s <;> rfl
    rw [this]
    rfl
  | number s m e =>
    rw [fin_true hd]
    have hc : cls .f64 b = some b := cls_some.mpr ⟨rfl, by show (Ieee.double.read b).isNaN = false; rw [hd]; rfl⟩
    rw [hc]
    have : fop .sub .f64 (some b) (some b) = some 0 := by
      show (((Ieee.double.read b).sum (Ieee.double.read b).opposite).map Ieee.double.write) = some 0
      rw [hd, sum_opp]
      rfl
    rw [this]
    rfl
theorem read_double {b m : Nat} {s : Bool} {e : Int} (h : Ieee.double.read b = .number s m e) : m < 9007199254740992 ∧ -1074 ≤ e ∧ e ≤ 971 := by
  have h1 := double_sw
  have h2 := double_inf
  have h3 : Ieee.double.binade = 4503599627370496 := by rfl
  have h4 : Ieee.double.leastPlace = -1074 := by rfl
  unfold Ieee.Format.read at h
  simp only [h1, h2, h3, h4] at h
  split at h
  · injection h with _ hm he
    subst hm; subst he
    omega
  · split at h
    · injection h with _ hm he
      subst hm; subst he
      omega
    · split at h <;> cases h
theorem read_max : Ieee.double.read 9218868437227405311 = .number false 9007199254740991 971 := by rfl
theorem below_max {m : Nat} {e : Int} (hm : m < 9007199254740992) (he : -1074 ≤ e) (he2 : e ≤ 971) : (Ieee.Datum.number false m e).order (.number false 9007199254740991 971) ≠ some .gt := by
  unfold Ieee.Datum.order
  dsimp only
  have hb : min e 971 = e := by omega
  rw [hb]
  have h0 : (e - e).toNat = 0 := by omega
  rw [h0]
  intro h
  have h2 : compare (Ieee.signed false m 0) (Ieee.signed false 9007199254740991 (971 - e).toNat) = .gt := Option.some.inj h
  have h3 : Ieee.signed false m 0 ≤ Ieee.signed false 9007199254740991 (971 - e).toNat := by
    unfold Ieee.signed
    simp only [Bool.false_eq_true, if_false, Nat.shiftLeft_zero, Nat.shiftLeft_eq]
    have : 9007199254740991 * 1 ≤ 9007199254740991 * 2 ^ (971 - e).toNat := Nat.mul_le_mul_left _ (Nat.one_le_two_pow)
    exact Int.ofNat_le.mpr (by omega)
  have h4 : Ieee.signed false 9007199254740991 (971 - e).toNat < Ieee.signed false m 0 := Int.compare_eq_gt.mp h2
  omega
theorem inf_gt (b : Nat) : (FloatKind.f64.format.order (b % 9223372036854775808) 9218868437227405311 == some .gt) = (Ieee.double.read b).isInfinity := by
  show ((Ieee.double.read (b % 9223372036854775808)).order (Ieee.double.read 9218868437227405311) == some .gt) = _
  rw [read_abs, read_max]
  cases hd : Ieee.double.read b with
  | nan s t => rfl
  | infinity s => rfl
  | number s m e =>
    obtain ⟨h1, h2, h3⟩ := read_double hd
    have := below_max h1 h2 h3
    show ((Ieee.Datum.number false m e).order (.number false 9007199254740991 971) == some .gt) = false
    simpa using this
theorem fin_both (b : Nat) : (!(cls .f64 b).isNone && !(Ieee.double.read b).isInfinity) = fin (cls .f64 b) := by
  cases hd : Ieee.double.read b with
  | nan s t => rw [fin_nan hd, cls_none.mpr (by show (Ieee.double.read b).isNaN = true; rw [hd]; rfl)]; rfl
  | infinity s => rw [fin_inf hd]; simp [Ieee.Datum.isInfinity]
  | number s m e => rw [fin_true hd, cls_some.mpr ⟨rfl, by show (Ieee.double.read b).isNaN = false; rw [hd]; rfl⟩]; rfl
theorem abs_bits (b : Nat) (h : b < 18446744073709551616) : bits .andNot .u64 (b : Int) 9223372036854775808 = ((b % 9223372036854775808 : Nat) : Int) := by
  rw [show (9223372036854775808 : Int) = ((9223372036854775808 : Nat) : Int) from rfl, u64_andNot_nat b 9223372036854775808 h (by decide)]
  congr 1
  exact Nat.and_two_pow_sub_one_eq_mod b 63
/-- The reference's size of a number. -/
def fsize (b : Nat) : Nat := if FloatKind.f64.format.order b 0 == some .lt then Op.negFloat .f64 b else b
theorem signed_zero (s : Bool) (n : Nat) : Ieee.signed s 0 n = 0 := by cases s <;> simp [Ieee.signed]
theorem order_num {s t s' t' : Bool} {m n : Nat} {i j : Int} (h1 : s = s' ∨ m = 0) (h2 : t = t' ∨ n = 0) : (Ieee.Datum.number s m i).order (.number t n j) = (Ieee.Datum.number s' m i).order (.number t' n j) := by
  unfold Ieee.Datum.order
  dsimp only
  have e1 : ∀ k, Ieee.signed s m k = Ieee.signed s' m k := fun k => by
    rcases h1 with rfl | rfl
    · rfl
    · rw [signed_zero, signed_zero]
  have e2 : ∀ k, Ieee.signed t n k = Ieee.signed t' n k := fun k => by
    rcases h2 with rfl | rfl
    · rfl
    · rw [signed_zero, signed_zero]
  rw [e1, e2]
theorem size_read {b m : Nat} {s : Bool} {e : Int} (h : Ieee.double.read b = .number s m e) : ∃ s', Ieee.double.read (fsize b) = .number s' m e ∧ (s' = false ∨ m = 0) := by
  unfold fsize
  cases s with
  | false =>
    have hn : (FloatKind.f64.format.order b 0 == some .lt) = false := by
      show ((Ieee.double.read b).order (Ieee.double.read 0) == some .lt) = false
      rw [h, read_zero]
      unfold Ieee.Datum.order
      dsimp only
      rw [signed_zero]
      have h0 : 0 ≤ Ieee.signed false m (e - min e Ieee.double.leastPlace).toNat := by unfold Ieee.signed; rw [if_neg (by decide)]; exact Int.natCast_nonneg _
      rcases hc : compare (Ieee.signed false m (e - min e Ieee.double.leastPlace).toNat) 0 with _ | _ | _
      · have := Int.compare_eq_lt.mp hc; omega
      · rfl
      · rfl
    rw [hn]
    exact ⟨false, h, .inl rfl⟩
  | true =>
    rcases Nat.eq_zero_or_pos m with rfl | hm
    · split
      · exact ⟨false, by rw [show Ieee.double = FloatKind.f64.format from rfl, read_neg, show FloatKind.f64.format = Ieee.double from rfl, h]; rfl, .inl rfl⟩
      · exact ⟨true, h, .inr rfl⟩
    · have hn : (FloatKind.f64.format.order b 0 == some .lt) = true := by
        show ((Ieee.double.read b).order (Ieee.double.read 0) == some .lt) = true
        rw [h, read_zero]
        unfold Ieee.Datum.order
        dsimp only
        rw [signed_zero]
        have h0 : Ieee.signed true m (e - min e Ieee.double.leastPlace).toNat < 0 := by
          unfold Ieee.signed
          simp only [if_true, Nat.shiftLeft_eq]
          have : 0 < m * 2 ^ (e - min e Ieee.double.leastPlace).toNat := Nat.mul_pos hm (Nat.two_pow_pos _)
          omega
        rw [Int.compare_eq_lt.mpr h0]
        rfl
      rw [hn]
      exact ⟨false, by rw [if_pos rfl, show Ieee.double = FloatKind.f64.format from rfl, read_neg, show FloatKind.f64.format = Ieee.double from rfl, h]; rfl, .inl rfl⟩
theorem size_abs {a b : Nat} (ha : fin (cls .f64 a) = true) (hb : fin (cls .f64 b) = true) :
    FloatKind.f64.format.order (fsize a) (fsize b) = FloatKind.f64.format.order (a % 9223372036854775808) (b % 9223372036854775808) := by
  obtain ⟨s, m, e, h1⟩ := fin_number ha
  obtain ⟨t, n, j, h2⟩ := fin_number hb
  obtain ⟨s', g1, k1⟩ := size_read h1
  obtain ⟨t', g2, k2⟩ := size_read h2
  show (Ieee.double.read (fsize a)).order (Ieee.double.read (fsize b)) = (Ieee.double.read (a % 9223372036854775808)).order (Ieee.double.read (b % 9223372036854775808))
  rw [g1, g2, read_abs, read_abs, h1, h2]
  exact order_num k1 k2
end Go.Proofs.Ytigbdfhlpnabdaa.Fl
