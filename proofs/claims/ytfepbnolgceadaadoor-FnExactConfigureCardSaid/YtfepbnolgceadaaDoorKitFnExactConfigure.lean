/- Plain lemmas on whole numbers, lists and rounds that the proofs of this seat share; each holds under the bounds that stand in it. -/
import Derived.Test.YtfepbnolgceadaaDoorVFnExactConfigure
import Derived.Laws.BitsAllLaws
namespace Go.Proofs.YtfepbnolgceadaaDoor.Mine
open Go Go.RowKit Go.Proofs.YtfepbnolgceadaaDoorW.PrintWords

theorem w64 {x : Int} (h0 : -9223372036854775808 ≤ x) (h1 : x ≤ 9223372036854775807) : wrap64 x = x := by
  unfold wrap64; omega
theorem wf64 {x : Int} (h : (Lit.int .i64 x).wf = true) : -9223372036854775808 ≤ x ∧ x ≤ 9223372036854775807 := by
  simp [Lit.wf, IntKind.min, IntKind.max, IntKind.signed, IntKind.bits] at h
  omega
theorem wf8 {x : Int} (h : (Lit.int .u8 x).wf = true) : 0 ≤ x ∧ x ≤ 255 := by
  simp [Lit.wf, IntKind.min, IntKind.max, IntKind.signed, IntKind.bits] at h
  omega
theorem ev_unroll {α : Type} {g : Nat → Option α} {r : α} (h : Ev (fun k => g (k + 1)) r) : Ev g r := Ev.step (fun _ => rfl) h
theorem ev_bind1 {α β : Type} {a : α} {o : Option α} {f : Nat → α → Option β} {r : β} (h : o = some a) (k : Ev (fun n => f n a) r) : Ev (fun n => o.bind (f n)) r := by
  subst h; exact k
theorem ev_eq {α : Type} {g : Nat → Option α} {r s : α} (h : Ev g r) (e : r = s) : Ev g s := e ▸ h
theorem ev_unique {α : Type} {g : Nat → Option α} {r s : α} (h : Ev g r) (k : Ev g s) : r = s := by
  obtain ⟨K, h⟩ := h
  obtain ⟨K', k⟩ := k
  have h1 := h (max K K') (by omega)
  have h2 := k (max K K') (by omega)
  rw [h1] at h2
  exact Option.some.inj h2

theorem rd_nat (xs : List Int) (n : Nat) : rd xs (n : Int) = xs.getD n 0 := by simp [rd]
theorem rd_mem {xs : List Int} {i : Int} (h0 : 0 ≤ i) (h1 : i < (xs.length : Int)) : rd xs i ∈ xs := by
  have h : i.toNat < xs.length := by omega
  have e : rd xs i = xs[i.toNat] := by simp [rd, h]
  rw [e]; exact List.getElem_mem h
theorem rd_map {xs ys : List Int} {i : Int} (h : i < (xs.length : Int)) (h0 : 0 ≤ i) : rd (xs ++ ys) i = rd xs i := by
  have h : i.toNat < xs.length := by omega
  simp [rd, h, List.getElem?_append_left h]
theorem take_rd {xs : List Int} {i : Nat} (h : i < xs.length) : xs.take (i + 1) = xs.take i ++ [rd xs (i : Int)] := by
  rw [List.take_succ_eq_append_getElem h]
  simp [rd, h]
theorem take_getD {α : Type} {xs : List α} {i : Nat} (d : α) (h : i < xs.length) : xs.take (i + 1) = xs.take i ++ [xs.getD i d] := by
  rw [List.take_succ_eq_append_getElem h]
  simp [h]
theorem drop_rd {xs : List Int} {i : Nat} (h : i < xs.length) : xs.drop i = rd xs (i : Int) :: xs.drop (i + 1) := by
  rw [List.drop_eq_getElem_cons h]
  simp [rd, h]
theorem drop_getD {α : Type} {xs : List α} {i : Nat} (d : α) (h : i < xs.length) : xs.drop i = xs.getD i d :: xs.drop (i + 1) := by
  rw [List.drop_eq_getElem_cons h]
  simp [h]
/-- One element more is as it should be. -/
theorem take_set_succ {α : Type} {l m : List α} {i : Nat} (d : α) (hl : l.length = m.length) (h : l.take i = m.take i) (hi : i < m.length) : (l.set i (m.getD i d)).take (i + 1) = m.take (i + 1) := by
  rw [take_getD d (by simp; omega), take_getD d hi]
  have e1 : (l.set i (m.getD i d)).take i = l.take i := by rw [List.take_set]; exact List.set_eq_of_length_le (by simp; omega)
  rw [e1, h]
  simp [hl ▸ hi, hi]
theorem tmod_nonneg {a b : Int} (h : 0 ≤ a) : Int.tmod a b = a % b := Int.tmod_eq_emod_of_nonneg h
theorem tdiv_nonneg {a b : Int} (h : 0 ≤ a) : Int.tdiv a b = a / b := Int.tdiv_eq_ediv_of_nonneg h

theorem xor64_nat (a b : Nat) (ha : a < 9223372036854775808) (hb : b < 9223372036854775808) : bits .xor .i64 (a : Int) (b : Int) = ((a ^^^ b : Nat) : Int) := by
  have hx : a ^^^ b < 2 ^ 63 := Nat.xor_lt_two_pow (by omega) (by omega)
  show IntKind.i64.wrap ((BitVec.ofInt 64 (a : Int) ^^^ BitVec.ofInt 64 (b : Int)).toNat : Int) = _
  rw [BitVec.toNat_xor, ofInt_u64 a (by omega), ofInt_u64 b (by omega), IntKind.wrap_i64]
  omega
theorem xor64 (a b : Int) (h1 : 0 ≤ a) (h2 : a < 9223372036854775808) (h3 : 0 ≤ b) (h4 : b < 9223372036854775808) : bits .xor .i64 a b = ((a.toNat ^^^ b.toNat : Nat) : Int) := by
  obtain ⟨A, rfl⟩ := Int.eq_ofNat_of_zero_le h1
  obtain ⟨B, rfl⟩ := Int.eq_ofNat_of_zero_le h3
  simpa using xor64_nat A B (by omega) (by omega)
theorem xor64_lt {a b : Int} (n : Nat) (hn : n ≤ 63) (h1 : 0 ≤ a) (h2 : a < 2 ^ n) (h3 : 0 ≤ b) (h4 : b < 2 ^ n) : 0 ≤ bits .xor .i64 a b ∧ bits .xor .i64 a b < 2 ^ n := by
  have hp : (2 : Nat) ^ n ≤ 2 ^ 63 := Nat.pow_le_pow_right (by omega) hn
  have hq : ((2 ^ n : Nat) : Int) = (2 : Int) ^ n := by simp
  rw [xor64 a b h1 (by omega) h3 (by omega)]
  have hx : a.toNat ^^^ b.toNat < 2 ^ n := Nat.xor_lt_two_pow (by omega) (by omega)
  omega
theorem and1_64 {a : Int} (h1 : 0 ≤ a) (h2 : a ≤ 9223372036854775807) : bits .and .i64 a 1 = a % 2 := by
  obtain ⟨A, rfl⟩ := Int.eq_ofNat_of_zero_le h1
  show IntKind.i64.wrap ((BitVec.ofInt 64 (A : Int) &&& BitVec.ofInt 64 ((1 : Nat) : Int)).toNat : Int) = _
  rw [BitVec.toNat_and, ofInt_u64 A (by omega), ofInt_u64 1 (by omega), IntKind.wrap_i64, Nat.and_one_is_mod]
  omega
theorem and255 (n : Int) : bits .and .i64 n 255 = n % 256 := by
  have h255 : (BitVec.ofInt 64 255).toNat = 2 ^ 8 - 1 := by decide
  have key : (BitVec.ofInt 64 n &&& BitVec.ofInt 64 255).toNat = (n % ((2 ^ 64 : Nat) : Int)).toNat % 2 ^ 8 := by
    rw [BitVec.toNat_and, BitVec.toNat_ofInt, h255, Nat.and_two_pow_sub_one_eq_mod]
  show IntKind.i64.wrap ((BitVec.ofInt 64 n &&& BitVec.ofInt 64 255).toNat : Nat) = n % 256
  rw [key, IntKind.wrap_i64]
  omega
theorem xor64_div {a : Int} (h1 : 0 ≤ a) (h2 : a < 65536) : bits .xor .i64 a (a / 256) / 8192 = a / 8192 := by
  obtain ⟨A, rfl⟩ := Int.eq_ofNat_of_zero_le h1
  have e : ((A : Int) / 256) = ((A / 256 : Nat) : Int) := by simp
  rw [e, xor64_nat A (A / 256) (by omega) (by omega)]
  have e2 : (A ^^^ A / 256) / 2 ^ 13 = A / 2 ^ 13 := by
    rw [← Nat.shiftRight_eq_div_pow, Nat.shiftRight_xor_distrib, Nat.shiftRight_eq_div_pow, Nat.shiftRight_eq_div_pow]
    have : A / 256 / 2 ^ 13 = 0 := by omega
    rw [this, Nat.xor_zero]
  have e3 : (2 : Nat) ^ 13 = 8192 := by decide
  rw [e3] at e2
  omega
end Go.Proofs.YtfepbnolgceadaaDoor.Mine
namespace Go.Proofs.YtfepbnolgceadaaDoor.PrintWords
/-- The name under which a printed row cites it. -/
abbrev sized_ints := @Go.Proofs.YtfepbnolgceadaaDoorW.PrintWords.sized_ints
end Go.Proofs.YtfepbnolgceadaaDoor.PrintWords
