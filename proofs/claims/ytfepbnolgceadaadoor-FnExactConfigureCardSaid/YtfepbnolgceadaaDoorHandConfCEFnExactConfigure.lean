/- What impl.Configure calls. -/
import Derived.Test.YtfepbnolgceadaaDoorHandConfWEFnExactConfigure
import Derived.Test.YtfepbnolgceadaaDoorHandValueFnExactConfigure
import Derived.Lib.SliceRun
import Derived.BigFrame
namespace Go.Proofs.YtfepbnolgceadaaDoor.MFnExactConfigure
open Go.Proofs.YtfepbnolgceadaaDoor
open Go Go.RowKit Go.Maps Go.WideMaps Go.Proofs.YtfepbnolgceadaaDoor.Mine Go.Proofs.YtfepbnolgceadaaDoorW.PrintWords Go.Proofs.YtfepbnolgceadaaDoorW.PrintLast Go.Proofs.YtfepbnolgceadaaDoorW.PrintMore
attribute [local go_sem] max2_int min2_int max_two min_two max_three min_three max_four min_four
set_option linter.unusedVariables false
set_option linter.unusedSimpArgs false
open Go.Sort
namespace Hand
/-! ### what impl.Configure calls -/
/-- The library's own variable holds some number. -/
def MaxCell (w : World) : Prop := ∃ m, w.cell? ⟨Tryd.lays145_ren.g 1, 0, none⟩ = some (.int .i64 m)
theorem maxCell_at {w w' : World} (h : MaxCell w) (hb : Below w.heap.size w w') : MaxCell w' := by
  obtain ⟨m, hm⟩ := h
  exact ⟨m, (hb.cell (World.block_lt_of_cell? w _ hm)).trans hm⟩
abbrev nlB : ByteArray := ⟨#[10]⟩
def lineOf (s : ByteArray) : ByteArray := ⟨(Lib.cut s.data.toList [10]).1.toArray⟩
def restOf (s : ByteArray) : ByteArray := ⟨(Lib.cut s.data.toList [10]).2.1.toArray⟩
def isOf (s : ByteArray) : Bool := (Lib.cut s.data.toList [10]).2.2
theorem cut_sizes (s : ByteArray) : (lineOf s).size ≤ s.size ∧ (isOf s = true → (restOf s).size < s.size) := by
  rcases Lib.indexB_cases s nlB with h | ⟨i, h, hr⟩
  · obtain ⟨e1, e2, e3⟩ := Lib.cutB_miss s nlB h
    exact ⟨by show ByteArray.size ⟨(Lib.cut s.data.toList nlB.data.toList).1.toArray⟩ ≤ _; rw [e1]; exact Nat.le_refl _, fun hc => by exact absurd (e3.symm.trans hc) (by decide)⟩
  · obtain ⟨e1, e2, e3⟩ := Lib.cutB_hit s nlB i h
    have hs : nlB.size = 1 := rfl
    exact ⟨by show ByteArray.size ⟨(Lib.cut s.data.toList nlB.data.toList).1.toArray⟩ ≤ _; rw [e1]; simp; omega, fun _ => by show ByteArray.size ⟨(Lib.cut s.data.toList nlB.data.toList).2.1.toArray⟩ < _; rw [e2]; simp; omega⟩
theorem cut_calls (s : ByteArray) (w : World) (hs : s.size ≤ 3000) (hm : MaxCell w) :
    Calls Tryd.prog 34 #[.string s, .string ⟨#[10]⟩] w fun e w' => e = .returned (.tuple #[.string (lineOf s), .string (restOf s), .bool (isOf s)]) ∧ Below w.heap.size w w' := by
  obtain ⟨m, hm⟩ := hm
  refine (Any.strings_Cut Tryd.lays145 s nlB m w (by omega) hm).mono ?_
  rintro e w' ⟨rfl, n, rfl⟩
  exact ⟨rfl, pw_below_drewN (Below.refl _ _) _⟩
theorem pieces_len (s : ByteArray) : (pieces s).length = Lib.countB s sepB + 1 := Lib.splitB_all sepB (by decide) 0 _ s rfl
theorem pieces_pos (s : ByteArray) : 0 < (pieces s).length := by rw [pieces_len]; exact Nat.succ_pos _
theorem pieces_size : ∀ (k : Nat) (s p : ByteArray), p ∈ Lib.splitB sepB 0 k s → p.size ≤ s.size
  | 0, s, p, h => by simp only [Lib.splitB, List.mem_singleton] at h; rw [h]; exact Nat.le_refl _
  | k + 1, s, p, h => by
    unfold Lib.splitB at h
    split at h
    · simp only [List.mem_singleton] at h; rw [h]; exact Nat.le_refl _
    · rcases List.mem_cons.mp h with rfl | h
      · simp; omega
      · have := pieces_size k _ p h
        simp at this
        omega
theorem piece_size (s : ByteArray) (i : Nat) : ((pieces s).getD i ⟨#[]⟩).size ≤ s.size := by
  by_cases hi : i < (pieces s).length
  · have e : (pieces s).getD i ⟨#[]⟩ = (pieces s)[i] := by simp [hi]
    rw [e]
    exact pieces_size _ s _ (List.getElem_mem hi)
  · have e : (pieces s).getD i ⟨#[]⟩ = (⟨#[]⟩ : ByteArray) := by simp [List.getD, List.getElem?_eq_none (Nat.le_of_not_lt hi)]
    rw [e]
    exact Nat.zero_le _
theorem infoS : (Tryd.prog.info? 9).map (fun i => (i.zero, i.size, i.bytes)) = some (some (.string ByteArray.empty), 1, 16) := by kernel_rfl
theorem split_calls (s : ByteArray) (w : World) (hs : s.size ≤ 3000) (hm : MaxCell w) :
    Calls Tryd.prog 35 #[.string s, .string ⟨#[32]⟩] w fun e w' => e = .returned (.slice (some ⟨w.heap.size, 0, none⟩) (pieces s).length (pieces s).length) ∧ w' = w.alloc (.cells ((pieces s).map Value.string).toArray 9) := by
  obtain ⟨m, hm⟩ := hm
  refine (Any.strings_Split Tryd.lays146 infoS s sepB m w (by omega) hm (by decide)).mono ?_
  rintro e w' ⟨rfl, rfl⟩
  rw [pieces_len]
  exact ⟨rfl, rfl⟩
theorem piece_cell (w : World) (s : ByteArray) (i : Nat) (hi : i < (pieces s).length) : (w.alloc (.cells ((pieces s).map Value.string).toArray 9)).cell? ⟨w.heap.size, i, none⟩ = some (.string ((pieces s).getD i ⟨#[]⟩)) := by
  rw [Lib.cell_of_heap (blk_new w _)]
  simp [hi]
/-! ### slices.Clone at settings -/
set_option maxHeartbeats 4000000 in
set_option maxRecDepth 100000 in
theorem cloneS_calls (A0 : Option Addr) (c0 : Nat) (l0 : List S38) (w : World) (hr0 : Kd.C k38 w A0 l0.length l0) (hc0 : l0.length ≤ c0) (hn : l0.length ≤ 1048576) :
    Calls Tryd.prog 33 #[.slice A0 l0.length c0] w fun e w' => ∃ v0_ : Value, e = .returned v0_ ∧ Kd.R k38 38 w' w.heap.size (fun _ => True) v0_ l0 ∧ Below w.heap.size w w' := by
  cases A0 with
  | none =>
    have hl : l0 = [] := by
      rcases Nat.eq_zero_or_pos l0.length with h | h
      · exact List.length_eq_zero_iff.mp h
      · obtain ⟨ad, e, _⟩ := hr0.2.2 h; cases e
    subst hl
    have heq : ∀ W : World, (binOp .eql 25 (.slice none 0 c0) (.slice none 0 0)).run Tryd.prog W = .ok (.bool true) W := fun W => Lib.run_eql_slice_nil W 25 38 none 0 c0 0 0 Tryd.underlying25
    go_enter Tryd.func33, Tryd.ntmps33
    go_wp2
    go_ret
    exact ⟨_, rfl, Kd.R_nil _ _ _ _ _, Below.refl _ _⟩
  | some ad =>
    have heq : ∀ W : World, (binOp .eql 25 (.slice (some ad) l0.length c0) (.slice none 0 0)).run Tryd.prog W = .ok (.bool false) W := fun W => Lib.run_eql_slice_nil W 25 38 (some ad) l0.length c0 0 0 Tryd.underlying25
    have HR := Aside0.mk hr0
    clear hr0
    go_enter Tryd.func33, Tryd.ntmps33
    go_wp2_with (first
      | ((with_reducible refine gate_dst (N := 5) rfl ?_); refine Kd.R_lit k38 _ 38 ?hg (N := 5) ?hd (xs := ([] : List S38)) (inner := []) (ok := fun _ => True) (okp := fun _ => True) ?hr ?hp (fun _ hk => hk) trivial (Below.refl _ _) (Nat.le_refl _) (by simp) ?_; (case hd => rfl); (case hg => rfl); (case hr => first | (go_simp; done) | (go_simp; rfl)); (case hp => exact (Reps.none _ _)); intro v1 w1 ho hb hg_ hnew_; clear hg_ hnew_; have HO := Aside0.mk ho; have HB := Aside0.mk hb; clear ho hb)
      | ((with_reducible refine gate_builtin (b := .append) (xs := #[.tmp 5, .tmp 6]) rfl ?_); at_builtin; refine Kd.R_append_rows k38 (w0 := w) w.heap.size rfl (.tmp 5) (.tmp 6) 25 38 (.agg #[(.string ⟨#[]⟩), (.string ⟨#[]⟩)]) 32 rfl Tryd.underlying25 info38 rfl (by decide) (by omega) v1 [] l0 _ _ _ (fun _ => True) (fun _ => False) rfl rfl ?aO ?aR (fun _ _ h => h) (fun _ h => h.elim) ?aF ?aB ?aS ?aL ?_; (case aR => exact Kd.C_below HR.out HB.out); (case aB => exact HB.out); (case aF => exact fun _ _ => trivial); (case aO => exact HO.out); (case aS => exact HB.out.size); (case aL => simp; omega); intro v2 w2 ho hb hg hat; rw [List.nil_append] at ho; have HO2 := Aside0.mk ho; have HB2 := Aside0.mk hb; clear ho hb hg hat))
    go_ret
    exact ⟨_, rfl, HO2.out, HB2.out⟩
/-- The map of a list in the keys' order. -/
theorem insA_last : ∀ (L : List S38) (x : S38), Asc (L ++ [x]) → insA x L = L ++ [x]
  | [], _, _ => rfl
  | y :: r, x, h => by
    obtain ⟨h1, h2⟩ := List.pairwise_cons.mp h
    have hb := h1 x (by simp)
    unfold insA
    rw [if_neg (fun hc => List.lt_irrefl _ (before_lt (before_trans hb hc))), insA_last r x h2]
    rfl
theorem mapD_asc (l : List S38) (h : Asc l) : mapD l = mapE l := by
  suffices hs : ∀ m : List S38, Asc m.reverse → mapD m.reverse = mapE m.reverse by
    have := hs l.reverse (by rw [List.reverse_reverse]; exact h)
    rwa [List.reverse_reverse] at this
  intro m
  induction m with
  | nil => exact fun _ => rfl
  | cons x m ih =>
    intro h
    rw [List.reverse_cons] at h ⊢
    have h0 : Asc m.reverse := List.Pairwise.sublist (List.sublist_append_left _ _) h
    rw [mapD_snoc, ih h0, mapE_put]
    congr 1
    have e : delS m.reverse x.f0 = m.reverse := by
      refine List.filter_eq_self.mpr fun s hs => ?_
      have hb := (List.pairwise_append.mp h).2.2 s hs x (by simp)
      have hne : s.f0 ≠ x.f0 := fun e => by rw [e] at hb; exact List.lt_irrefl _ (before_lt hb)
      simp [hne]
    unfold setS
    rw [e, insA_last _ _ h]
section
variable {H : Type} {P : Program} (w : World) {ops : Array Oper} {rest : List Oper} {o : Oper} {a : Act} {Q : Exit → Act → World → Prop}
/-- 'len(m)', behind a guard that says yes. -/
theorem wpList_len_want (hw : Region.wanted o (yielded ops a.tmps) = true) (m : Operand) (t : TypeId) (hop : o.op = Op.call { callee := Callee.builtin Builtin.len, args := #[m], argTypes := #[t] })
    (k e : TypeId) (ht : P.underlying t = some (.map k e)) (R : Value → Option (DataW H × List MemPlace)) (b n : Nat) (D : DataW H) (hm : a.eval m = .map (some b)) (hown : w.ownsMap P k R b n D)
    (hK : wpList P ops Q rest (a.put o.dst (.int .i64 (Maps.size D))) w) :
    wpList P ops Q (o :: rest) a w := by
  refine BigFrame.wpList_want hw fun K' hK' => ?_
  unfold Oper.wp
  simp [execOp, hop, resolve, invoke, builtin, hm, hown.len ht o.type, Result.andThen]
  exact hK' _ _ hK
end
end Hand
end Go.Proofs.YtfepbnolgceadaaDoor.MFnExactConfigure
