/- The contract of slices.Repeat over ints, where one element is repeated at most 1048576 times. -/
import Derived.Test.YtngnkfpciloamaaProg
import Derived.Below
import Derived.Deep.Draws
import Derived.Deep.AppendLies
import Derived.Maps.AppendAt
import Derived.OwnWalk
import Derived.Laws.BytesArg
import Derived.Laws.MakeOwn
import Derived.Laws.OwnMore
import Derived.Deep.OwnRows
import Derived.Tactics
import Derived.Lib.ConvBytes
import Derived.Laws.Slices
import Derived.WalkKit
import Derived.KernelRfl
import Derived.RowKit3
import Derived.Deep.LoopGhost
import Derived.Deep.QuietTactic
import Derived.BigQuiet
import Derived.WideLaws
import Derived.Deep.DeepCutAuto
import Derived.Deep.CutBlock
import Derived.Deep.RegionHeld3
import Derived.Laws.Rows
import Derived.Lib.AppendStr
import Derived.ArgAppend
import Derived.Laws.IdiomCopy
import Derived.OrdersHeld
import Derived.Laws.BitsLemmas
import Derived.RowKit
import Derived.Test.YtngnkfpciloamaaVFnBooked
import Derived.Outline
import Derived.Lib.Hide
import Derived.Laws.CopyOwn
import Derived.Deep.RegionLaw
import Derived.IntWalk
import Derived.Test.YtngnkfpciloamaaKitFnBooked
namespace Go.Proofs.Ytngnkfpciloamaa.Hand
open Go Go.RowKit Go.Proofs.YtngnkfpciloamaaW.PrintWords Go.Proofs.YtngnkfpciloamaaW.PrintLast Go.Proofs.YtngnkfpciloamaaW.PrintMore Go.Proofs.Ytngnkfpciloamaa.Mine
attribute [local go_sem] max2_int min2_int max_two min_two max_three min_three max_four min_four
set_option linter.unusedVariables false
set_option linter.unusedSimpArgs false
theorem info3 : (Try.prog.info? 3).map (fun i => (i.zero, i.size, i.bytes)) = some (some (.int .i64 0), 1, 8) := by kernel_rfl
def bits_Mul32.f (a0 : Int) (a1 : Int) : Option (Int × Int) := some (((IntKind.u64.wrap ((IntKind.u64.wrap (a0)) * (IntKind.u64.wrap (a1)))) / 4294967296) % 4294967296, (IntKind.u64.wrap ((IntKind.u64.wrap (a0)) * (IntKind.u64.wrap (a1)))) % 4294967296)
set_option maxHeartbeats 8000000 in
set_option maxRecDepth 100000 in
theorem bits_Mul32.calls (a0 : Int) (a1 : Int) (r1 : Int) (r2 : Int) (w : World) (h : bits_Mul32.f a0 a1 = some (r1, r2)) :
    Calls Try.prog 70 #[.int .u32 a0, .int .u32 a1] w fun e w' => e = .returned (.tuple #[.int .u32 r1, .int .u32 r2]) ∧ Drawn0 w w' := by
  have H : (some (((IntKind.u64.wrap ((IntKind.u64.wrap (a0)) * (IntKind.u64.wrap (a1)))) / 4294967296) % 4294967296, (IntKind.u64.wrap ((IntKind.u64.wrap (a0)) * (IntKind.u64.wrap (a1)))) % 4294967296)) = some (r1, r2) := h
  clear h
  simp only [Option.some.injEq, Prod.mk.injEq] at H
  obtain ⟨rfl, rfl⟩ := H
  go_enter Try.func70, Try.ntmps70
  go_wp2
  go_ret2
  exact ⟨by first | rfl | (simp; done) | (simp [*]; done), by repeat (first | exact Drawn0.refl _ | apply Drawn0.step)⟩
def bits_Mul64.f (a0 : Int) (a1 : Int) : Option (Int × Int) := some (IntKind.u64.wrap ((IntKind.u64.wrap ((IntKind.u64.wrap ((a0 / 4294967296) * (a1 / 4294967296))) + ((IntKind.u64.wrap ((IntKind.u64.wrap ((a0 / 4294967296) * (Go.bits .and .u64 a1 4294967295))) + ((IntKind.u64.wrap ((Go.bits .and .u64 a0 4294967295) * (Go.bits .and .u64 a1 4294967295))) / 4294967296))) / 4294967296))) + ((IntKind.u64.wrap ((Go.bits .and .u64 (IntKind.u64.wrap ((IntKind.u64.wrap ((a0 / 4294967296) * (Go.bits .and .u64 a1 4294967295))) + ((IntKind.u64.wrap ((Go.bits .and .u64 a0 4294967295) * (Go.bits .and .u64 a1 4294967295))) / 4294967296))) 4294967295) + (IntKind.u64.wrap ((Go.bits .and .u64 a0 4294967295) * (a1 / 4294967296))))) / 4294967296)), IntKind.u64.wrap (a0 * a1))
set_option maxHeartbeats 8000000 in
set_option maxRecDepth 100000 in
theorem bits_Mul64.calls (a0 : Int) (a1 : Int) (r1 : Int) (r2 : Int) (w : World) (h : bits_Mul64.f a0 a1 = some (r1, r2)) :
    Calls Try.prog 71 #[.int .u64 a0, .int .u64 a1] w fun e w' => e = .returned (.tuple #[.int .u64 r1, .int .u64 r2]) ∧ Drawn0 w w' := by
  have H : (some (IntKind.u64.wrap ((IntKind.u64.wrap ((IntKind.u64.wrap ((a0 / 4294967296) * (a1 / 4294967296))) + ((IntKind.u64.wrap ((IntKind.u64.wrap ((a0 / 4294967296) * (Go.bits .and .u64 a1 4294967295))) + ((IntKind.u64.wrap ((Go.bits .and .u64 a0 4294967295) * (Go.bits .and .u64 a1 4294967295))) / 4294967296))) / 4294967296))) + ((IntKind.u64.wrap ((Go.bits .and .u64 (IntKind.u64.wrap ((IntKind.u64.wrap ((a0 / 4294967296) * (Go.bits .and .u64 a1 4294967295))) + ((IntKind.u64.wrap ((Go.bits .and .u64 a0 4294967295) * (Go.bits .and .u64 a1 4294967295))) / 4294967296))) 4294967295) + (IntKind.u64.wrap ((Go.bits .and .u64 a0 4294967295) * (a1 / 4294967296))))) / 4294967296)), IntKind.u64.wrap (a0 * a1))) = some (r1, r2) := h
  clear h
  simp only [Option.some.injEq, Prod.mk.injEq] at H
  obtain ⟨rfl, rfl⟩ := H
  go_enter Try.func71, Try.ntmps71
  go_wp2
  go_ret2
  exact ⟨by first | rfl | (simp; done) | (simp [*]; done), by repeat (first | exact Drawn0.refl _ | apply Drawn0.step)⟩
def bits_Mul.f (a0 : Int) (a1 : Int) : Option (Int × Int) := (bits_Mul64.f a0 a1).bind fun bt139 => (some (bt139.1, bt139.2))
set_option maxHeartbeats 8000000 in
set_option maxRecDepth 100000 in
theorem bits_Mul.calls (a0 : Int) (a1 : Int) (r1 : Int) (r2 : Int) (w : World) (h : bits_Mul.f a0 a1 = some (r1, r2)) :
    Calls Try.prog 67 #[.int .u64 a0, .int .u64 a1] w fun e w' => e = .returned (.tuple #[.int .u64 r1, .int .u64 r2]) ∧ Drawn0 w w' := by
  have H : ((bits_Mul64.f a0 a1).bind fun bt139 => (some (bt139.1, bt139.2))) = some (r1, r2) := h
  clear h
  replace H := Option.bind_eq_some_iff.mp H
  obtain ⟨⟨t139, t140⟩, A30, H⟩ := H
  replace H : (some (t139, t140)) = some (r1, r2) := H
  have A3 := Aside0.mk A30
  clear A30
  simp only [Option.some.injEq, Prod.mk.injEq] at H
  obtain ⟨rfl, rfl⟩ := H
  go_enter Try.func67, Try.ntmps67
  go_wp2_with (first | ((with_reducible refine gate_callee (f := 71) rfl ?_); refine goesL_ (some 25) rfl rfl Try.func71 (by kernel_rfl) rfl #[.int .u64 a0, .int .u64 a1] rfl (by (try simp only [List.map_toArray, List.map_cons, List.map_nil]); first | done | rfl | (simp only [List.length_drop, List.length_take]; rfl)) ?_; (with_reducible refine (bits_Mul64.calls a0 a1 t139 t140 _ A3.out).mono ?_); rintro e w' ⟨rfl, ⟨nd, rfl⟩⟩; refine ⟨_, rfl, ?_⟩))
  go_ret2
  exact ⟨by first | rfl | (simp; done) | (simp [*]; done), by repeat (first | exact Drawn0.refl _ | apply Drawn0.step)⟩
theorem and_mask (n : Int) (h0 : 0 ≤ n) (h1 : n < 4294967296) : Go.bits .and .u64 n 4294967295 = n := by
  rw [u64_and n 4294967295 h0 (by omega) (by omega) (by omega)]
  have e : (4294967295 : Int).toNat = 2 ^ 32 - 1 := by decide
  rw [e, Nat.and_two_pow_sub_one_eq_mod]
  omega
theorem mul_one (n : Int) (h0 : 0 ≤ n) (h1 : n < 4294967296) : bits_Mul.f 1 n = some (0, n) := by
  have e1 := and_mask 1 (by omega) (by omega)
  have e2 := and_mask n h0 h1
  have e0 : Go.bits .and .u64 0 4294967295 = 0 := and_mask 0 (by omega) (by omega)
  have d1 : (1 : Int) / 4294967296 = 0 := by decide
  have d2 : n / 4294967296 = 0 := by omega
  simp only [bits_Mul.f, bits_Mul64.f, Option.bind_some, e1, e2, d1, d2, IntKind.wrap_u64, Int.zero_mul, Int.mul_zero, Int.one_mul, Int.zero_emod, Int.zero_add, Int.add_zero]
  rw [show n % 18446744073709551616 = n from by omega, show n / 4294967296 = 0 from by omega]
  simp [e0]
theorem made_block {w1 w2 : World} {base n : Nat} {v : Value} {xs : List Int} (ho : Kd.R (Kd.int .i64) 3 w2 base (fun _ => True) v xs) (hn : xs.length = n) (hb : ∃ b, v.ownBlock = some b ∧ w1.heap.size ≤ b) :
    ∃ (g cap : Nat) (cur : List Value), v = .slice (some ⟨g, 0, none⟩) n cap ∧ w1.heap.size ≤ g ∧ w2.heap[g]? = some (.cells cur.toArray 3 (0, 0)) ∧ n ≤ cap ∧ cap ≤ maxLen ∧ cur.length = cap := by
  obtain ⟨inner, h1, h2⟩ := Kd.R_own ho
  obtain ⟨b, hb1, hb2⟩ := hb
  rcases h2 with ⟨rfl, _⟩ | ⟨g, cap, cur, rfl, h3, h4, h5, h6, h7, h8⟩
  · simp [Value.ownBlock] at hb1
  · simp only [Value.ownBlock, Option.some.injEq] at hb1
    subst hb1
    refine ⟨g, cap, cur.toList, by rw [hn], hb2, by simpa using h4, by omega, h6, ?_⟩
    have h9 : (Kd.int .i64).sz = 1 := rfl
    rw [h9] at h7
    simpa using h7
def rowK (cur : List Value) (x : Int) (k : Nat) : List Value := List.replicate k (.int .i64 x) ++ cur.drop k
theorem rowK_length (cur : List Value) (x : Int) (k : Nat) (h : k ≤ cur.length) : (rowK cur x k).length = cur.length := by simp [rowK]; omega
theorem rowK_splice (cur : List Value) (x : Int) (k m : Nat) (h : k + m ≤ cur.length) : splice (rowK cur x k) k (List.replicate m (.int .i64 x)) = rowK cur x (k + m) := by
  have h1 : (List.replicate k (Value.int .i64 x)).length = k := by simp
  simp only [splice, rowK, List.length_replicate]
  rw [List.take_append_of_le_length (by simp), List.take_of_length_le (by simp), List.drop_append, List.drop_of_length_le (by simp)]
  simp [List.drop_drop, ← List.append_assoc, List.replicate_append_replicate]
theorem rowK_zero (cur : List Value) (x : Int) : rowK cur x 0 = cur := by simp [rowK]
theorem rowK_cell {w : World} {g : Nat} {cur : List Value} {x : Int} {k : Nat} (hg : w.heap[g]? = some (.cells (rowK cur x k).toArray 3 (0, 0))) (j : Nat) (v : Value) (hv : (List.replicate k (Value.int .i64 x))[j]? = some v) : w.cell? ((⟨g, 0, none⟩ : Addr).add j) = some v := by
  rw [add_plain, blk_cell hg]
  have hj : j < k := by
    rcases Nat.lt_or_ge j k with h | h
    · exact h
    · rw [List.getElem?_eq_none (by simpa using h)] at hv; cases hv
  rw [← hv]
  simp [rowK, List.getElem?_append_left (show j < (List.replicate k (Value.int .i64 x)).length by simpa using hj)]
theorem rowK_own {w' : World} {base g cap : Nat} {cur : List Value} {x : Int} {n : Nat} (hb : base ≤ g) (hg : w'.heap[g]? = some (.cells (rowK cur x n).toArray 3 (0, 0))) (hn : n ≤ cap) (hc : cap ≤ maxLen) (hl : cur.length = cap) :
    Kd.R (Kd.int .i64) 3 w' base (fun _ => True) (.slice (some ⟨g, 0, none⟩) n cap) (List.replicate n x) := by
  refine Kd.R_of_own ?_ (fun _ _ => trivial)
  refine ⟨by simp [encs], .inr ⟨g, cap, (rowK cur x n).toArray, by simp, hb, hg, by simpa using hn, hc, by simp [rowK_length cur x n (by omega), hl], ?_⟩⟩
  simp [rowK, encs]
theorem first_cell {w w2 : World} {g : Nat} {ad : Addr} {x : Int} {m : Nat} (hm : m ≤ 1) (hc : w.cell? ad = some (.int .i64 x)) (hal : ad.block < w.heap.size) (hb : Below w.heap.size w w2) :
    0 < (List.replicate m (Value.int .i64 x)).length → some (⟨g, 0, none⟩ : Addr) = some ⟨g, 0, none⟩ ∧ ∃ a, some ad = some a ∧ ∀ j v, (List.replicate m (Value.int .i64 x))[j]? = some v → w2.cell? (a.add j) = some v := by
  intro h
  refine ⟨rfl, ad, rfl, fun j v hv => ?_⟩
  have hj : j < m := by
    rcases Nat.lt_or_ge j m with h | h
    · exact h
    · rw [List.getElem?_eq_none (by simpa using h)] at hv; cases hv
  have hj0 : j = 0 := by omega
  subst hj0
  have e : v = .int .i64 x := (List.mem_replicate.1 (List.mem_of_getElem? hv)).2
  rw [e]
  have e0 : ad.add 0 = ad := by cases ad; simp [Addr.add]
  rw [e0]
  exact (hb.cell hal).trans hc
theorem start_row {w3 : World} {g m : Nat} {cur : List Value} {x : Int} (h : Hid (w3.heap[g]? = some (.cells (splice cur 0 (List.replicate m (.int .i64 x))).toArray 3 (0, 0)))) (hl : m ≤ cur.length) :
    w3.heap[g]? = some (.cells (rowK cur x m).toArray 3 (0, 0)) := by
  have e := rowK_splice cur x 0 m (by omega)
  rw [rowK_zero, Nat.zero_add] at e
  rw [← e]
  exact h.out
theorem least_two (k n : Nat) : ∃ m, m = Nat.min k (n - k) ∧ m ≤ k ∧ m ≤ n - k ∧ (1 ≤ k → k < n → 1 ≤ m) := by
  refine ⟨_, rfl, Nat.min_le_left _ _, Nat.min_le_right _ _, fun h h2 => ?_⟩
  show 1 ≤ min k (n - k)
  omega
theorem next_cells {w2 : World} {g k : Nat} {cur : List Value} {x : Int} {m : Nat} (hm : m ≤ k) (hg : w2.heap[g]? = some (.cells (rowK cur x k).toArray 3 (0, 0))) :
    0 < (List.replicate m (Value.int .i64 x)).length → some (⟨g, k, none⟩ : Addr) = some ⟨g, k, none⟩ ∧ ∃ a, some (⟨g, 0, none⟩ : Addr) = some a ∧ ∀ j v, (List.replicate m (Value.int .i64 x))[j]? = some v → w2.cell? (a.add j) = some v := by
  intro h
  refine ⟨rfl, _, rfl, fun j v hv => rowK_cell hg j v ?_⟩
  have hj : j < m := by
    rcases Nat.lt_or_ge j m with h | h
    · exact h
    · rw [List.getElem?_eq_none (by simpa using h)] at hv; cases hv
  rw [List.getElem?_replicate, if_pos (by omega)]
  rw [List.getElem?_replicate, if_pos hj] at hv
  exact hv
theorem least_one (n : Nat) : ∃ m, m = Nat.min 1 n ∧ m ≤ 1 ∧ m ≤ n ∧ (1 ≤ n → 1 ≤ m) := by
  refine ⟨_, rfl, Nat.min_le_left 1 n, Nat.min_le_right 1 n, fun h => ?_⟩
  show 1 ≤ min 1 n
  omega
set_option maxHeartbeats 1000000 in
set_option maxRecDepth 100000 in
theorem repeat_calls (ad : Addr) (c0 : Nat) (x : Int) (n : Nat) (hn : n ≤ 1048576) (w : World) (hc : w.cell? ad = some (.int .i64 x)) (hc0 : 1 ≤ c0) :
    Calls Try.prog 62 #[.slice (some ad) 1 c0, .int .i64 n] w fun e w' => ∃ v0_ : Value, e = .returned (v0_) ∧ Kd.R (Kd.int .i64) 3 w' w.heap.size (fun _ => True) v0_ (List.replicate n x) ∧ Below w.heap.size w w' := by
  have hm := Lib.hid (mul_one n (by omega) (by omega))
  have hneg : decide ((n : Int) < 0) = false := by simp
  have hbig : decide ((9223372036854775807 : Int) < (n : Int)) = false := by simp; omega
  have hw : IntKind.u64.wrap (n : Int) = (n : Int) := by rw [IntKind.wrap_u64]; omega
  have hsz : (Try.prog.info? 3).map (·.size) = some 1 := by kernel_rfl
  have HSZ := Lib.hid hsz
  clear hsz
  have hal := World.block_lt_of_cell? w ad hc
  obtain ⟨m1, hm1, hm2, hm3, hm4⟩ := least_one n
  have HM := Lib.hid hm1
  clear hm1
  go_enter Try.func62, Try.ntmps62
  go_wp2_with fail
  refine (bits_Mul.calls 1 (n : Int) 0 (n : Int) _ hm.out).mono ?_
  rintro e w1 ⟨rfl, hd⟩
  have hb0 := Aside0.mk hd.below
  clear hd hm
  go_wp2_with (first
    | ((with_reducible refine gate_dst (N := 30) rfl ?_); refine Kd.R_make (Kd.int .i64) _ 3 rfl (N := 30) rfl 23 _ _ rfl (n : Int) rfl rfl Try.underlying23 (.int .i64 0) 8 info3 rfl (by decide) (by omega) 0 (ok := fun _ => True) (okp := fun _ => True) rfl (fun _ hk => hk) trivial (by omega) (by omega) (Below.refl _ _) (Nat.le_refl _) ?_; intro v1 w2 ho hb hg hn1; obtain ⟨g, cap, cur, rfl, hg1, hg2, hg3, hg4, hg5⟩ := made_block ho (n := n) (by simp) hn1; have hb1 := Aside0.mk (below_step hb0.out hb); have HG := Lib.hid hg2; have HL := Lib.hid hg5; have hG := Aside0.mk (Nat.le_trans hb0.out.size hg1); clear ho hb hg hn1 hg1 hg2 hg5 hb0)
    | ((with_reducible refine gate_dst (N := 33) rfl ?_); refine wpList_copy_splice rfl (.tmp 31) (.tmp 32) 23 23 rfl 3 Try.underlying23 HSZ.out (some ⟨g, 0, none⟩) (some ad) n cap 1 c0 rfl rfl g 0 cur 3 HG.out (List.replicate m1 (.int .i64 x)) (by rw [List.length_replicate]; exact HM.out) (first_cell hm2 hc hal hb1.out) (by have := HL.out; rw [List.length_replicate]; omega) (by intro v hv; rw [(List.mem_replicate.1 hv).2]; rfl) w.heap.size w hb1.out hG.out ?_; intro w3 hg3' hb3; have HG3 := Lib.hid (start_row hg3' (by have := HL.out; omega)); have hb4 := Aside0.mk hb3; clear hb1 hb3 hg3' HG; rw [List.length_replicate]))
  go_loopw [8] (fun v wr => ∃ k : Nat, k ≤ n ∧ (1 ≤ n → 1 ≤ k) ∧ v = .int .i64 k ∧ Hid (wr.heap[g]? = some (.cells (rowK cur x k).toArray 3 (0, 0))) ∧ Aside0 (Below w.heap.size w wr)) (fun v _ => n - (intOf v).toNat)
  case atStart => exact ⟨m1, hm3, hm4, rfl, HG3, hb4⟩
  case round =>
    obtain ⟨k, hk, hk1, rfl, HGk, hbk⟩ := hrel
    clear HG3 hb4
    by_cases hlt : k < n
    · obtain ⟨m2, hm5, hm6, hm7, hm8⟩ := least_two k n
      have HM2 := Lib.hid hm5
      clear hm5
      have hkc : k ≤ cap := by omega
      have hkn : ¬ cap = k := by omega
      have HGd : Hid (wr.drew.heap[g]? = some (.cells (rowK cur x k).toArray 3 (0, 0))) := HGk
      have hbd := Aside0.mk (below_drew hbk.out)
      go_wp2
      go_region_law (refine step_copy_splice rfl (.tmp 41) (.tmp 44) 23 23 rfl 3 Try.underlying23 HSZ.out (some ⟨g, k, none⟩) (some ⟨g, 0, none⟩) (n - k) (cap - k) k cap (by simp [Act.eval, Act.put, hkn]) (by simp [Act.eval, Act.put]) g k (rowK cur x k) 3 HGd.out (List.replicate m2 (.int .i64 x)) (by rw [List.length_replicate]; exact HM2.out) (next_cells hm6 HGd.out) (by have := HL.out; rw [List.length_replicate, rowK_length _ _ _ (by omega)]; omega) (by intro v hv; rw [(List.mem_replicate.1 hv).2]; rfl) w.heap.size w hbd.out hG.out ?_; intro w4 hg4 hb4; rw [List.length_replicate])
      go_simp
      have HG4 := Lib.hid (show w4.heap[g]? = some (.cells (rowK cur x (k + m2)).toArray 3 (0, 0)) from by rw [← rowK_splice cur x k m2 (by have := HL.out; omega)]; exact hg4.out)
      have hb5 := Aside0.mk hb4
      clear hg4 hb4
      have hm9 : 1 ≤ m2 := hm8 (hk1 (by omega)) hlt
      rw [show IntKind.i64.wrap ((k : Int) + (m2 : Int)) = ((k + m2 : Nat) : Int) from by rw [IntKind.wrap_i64]; omega]
      go_roundw
      case rel => exact ⟨_, _, _, _, _, _, _, _, _, _, _, _, _, _, ⟨k + m2, by omega, by omega, rfl, HG4, hb5⟩, rfl⟩
      case measure => simp [intOf]; omega
    · have hkn : k = n := by omega
      have HK := Lib.hid (show wr.heap[g]? = some (.cells (rowK cur x n).toArray 3 (0, 0)) from by rw [← hkn]; exact HGk.out)
      clear hkn
      go_wp2
      go_ret
      exact ⟨_, rfl, rowK_own hG.out HK.out hg3 hg4 HL.out, hbk.out⟩
end Go.Proofs.Ytngnkfpciloamaa.Hand
