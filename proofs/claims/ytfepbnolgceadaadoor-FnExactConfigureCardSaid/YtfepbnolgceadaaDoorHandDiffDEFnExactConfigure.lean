/- impl.Diff19: what it answers, and that the code comes to it. -/
import Derived.Test.YtfepbnolgceadaaDoorHandMapDEFnExactConfigure
import Derived.Test.YtfepbnolgceadaaDoorShelfIFnExactConfigure
import Derived.Sort.Walk0
import Derived.Sort.KeysCollected
import Derived.Lib.SlMapMerge
namespace Go.Proofs
open Go.RowKit Go.Maps Go.Sort Go.Shelf
/-- slices.Sort's two contracts at this dump, at the fence that asks nothing. -/
theorem Tryd.sorts26 (m : Nat) : AnyZ.SortsIn Tryd.prog Tryd.sorted26_ren Fence.wide m :=
  ⟨fun blk off cap ss W hH hblk hsz => callsIn_wide.2 (AnyM.slices_Sort_string Tryd.sort46 blk off cap ss W hH hblk hsz),
   fun p cap W => callsIn_wide.2 (AnyM.slices_Sort_string_none Tryd.sort46 p cap W)⟩

/-- maps.Keys[map[string]string,string,string], at whatever map, the nil one too: a function value over ONE NEW BLOCK, which holds the map. -/
theorem Tryd.maps_Keys_27 (mb : Option Nat) (W : World) : CallsIn Fence.wide 5 Tryd.prog 27 #[.map mb] W fun e w' => e = .returned (.func (.func 47) #[] #[.pointer (some ⟨W.heap.size, 0, none⟩)]) ∧ w' = W.alloc (.cells #[.map mb] 45) :=
  AnyZ.keys_in Tryd.keys27 Fence.wide 5 trivial rfl mb W

set_option maxHeartbeats 1000000 in
/-- slices.Sorted[string] AT WHAT maps.Keys[map[string]string,string,string] HANDED BACK FOR A MAP THAT IS NOT nil ('w': the world AHEAD of maps.Keys' call): A NEW SLICE THAT HOLDS THE MAP's KEYS, SORTED; nil just where it has none; nothing that lay before has turned. -/
theorem Tryd.slices_Sorted_keys_26_27 {H : Type} (b nn : Nat) (D0 : DataW H) (R : Value → Option (DataW H × List MemPlace)) (w : World) (hown : w.ownsMap Tryd.prog 9 R b nn D0) (hmax : Maps.size D0 ≤ maxLen) (hbytes : Maps.size D0 * 16 ≤ 140737488355328) :
    CallsIn Fence.wide 5 Tryd.prog 26 #[.func (.func 47) #[] #[.pointer (some ⟨w.heap.size, 0, none⟩)]] (w.alloc (.cells #[.map (some b)] 45)) fun e w' => ∃ (v : Value) (ss : List (List UInt8)), e = .returned v ∧ ss.Perm (strKeys D0) ∧
      w'.ownsRow (w.alloc (.cells #[.map (some b)] 45)).heap.size 9 1 v ss.length ((ss.mergeSort (fun x y => decide (x ≤ y))).map encStr) ∧ (v = .slice none 0 0 ↔ ss = []) ∧ Below (w.alloc (.cells #[.map (some b)] 45)).heap.size (w.alloc (.cells #[.map (some b)] 45)) w' := by
  have hbl := hown.lt
  have hseq : SeqGives Fence.wide 2 Tryd.prog 47 #[.pointer (some ⟨w.heap.size, 0, none⟩)] encStr (fun ss => ss.Perm (strKeys D0)) (Maps.size D0) (w.alloc (.cells #[.map (some b)] 45)) :=
    AnyZ.keys_gives (ρ := Tryd.keys27_ren) { Tryd.keys27 with } Fence.wide _ trivial rfl (by omega) w.heap.size b nn D0 _ (by simp) (by simp) (by
      obtain ⟨es, clock, hb, Ft, hs, hD⟩ := hown
      exact ⟨es, clock, (Below.heap_alloc _ _ b hbl).trans hb, Ft, hs, hD⟩)
  exact AnyZ.sorted_in Tryd.sorted26 Fence.wide 5 trivial trivial trivial trivial rfl (by omega) (Tryd.sorts26 _) (enters_of Tryd.func46 (by kernel_rfl) rfl) 47 #[.pointer (some ⟨w.heap.size, 0, none⟩)] trivial (enters_of Tryd.func47 (by kernel_rfl) rfl) _ _ hmax hbytes _ hseq
end Go.Proofs
namespace Go.Proofs.YtfepbnolgceadaaDoor.MFnExactConfigure
open Go.Proofs.YtfepbnolgceadaaDoor
open Go Go.RowKit Go.Maps Go.WideMaps Go.Proofs.YtfepbnolgceadaaDoor.Mine Go.Proofs.YtfepbnolgceadaaDoorW.PrintWords Go.Proofs.YtfepbnolgceadaaDoorW.PrintLast Go.Proofs.YtfepbnolgceadaaDoorW.PrintMore
attribute [local go_sem] max2_int min2_int max_two min_two max_three min_three max_four min_four
set_option linter.unusedVariables false
set_option linter.unusedSimpArgs false
namespace Hand
/-- A name put in its place. -/
def insN (x : List UInt8) : List (List UInt8) → List (List UInt8)
  | [] => [x]
  | y :: ys => if x < y then x :: y :: ys else if x = y then y :: ys else y :: insN x ys
theorem lt_tri (x y : List UInt8) (h1 : ¬ x < y) (h2 : x ≠ y) : y < x := by
  by_cases h : y < x
  · exact h
  · exact absurd (List.le_antisymm (List.not_lt.mp h) (List.not_lt.mp h1)) h2
theorem mem_insN (x z : List UInt8) : ∀ ys, z ∈ insN x ys ↔ z = x ∨ z ∈ ys := by
  intro ys
  induction ys with
  | nil => simp [insN]
  | cons y ys ih =>
    unfold insN
    split
    · simp
    · split
      · rename_i h; subst h; simp
      · rw [List.mem_cons, ih, List.mem_cons]
        constructor
        · rintro (h | h | h)
          · exact .inr (.inl h)
          · exact .inl h
          · exact .inr (.inr h)
        · rintro (h | h | h)
          · exact .inr (.inl h)
          · exact .inl h
          · exact .inr (.inr h)
theorem insN_lt (x : List UInt8) : ∀ ys : List (List UInt8), ys.Pairwise (· < ·) → (insN x ys).Pairwise (· < ·) := by
  intro ys
  induction ys with
  | nil => intro _; exact List.pairwise_singleton _ _
  | cons y ys ih =>
    intro h
    have hy := List.pairwise_cons.mp h
    unfold insN
    split
    · rename_i hx
      refine List.pairwise_cons.mpr ⟨fun z hz => ?_, h⟩
      rcases List.mem_cons.mp hz with rfl | hz
      · exact hx
      · exact List.lt_trans hx (hy.1 z hz)
    · split
      · exact h
      · rename_i h1 h2
        refine List.pairwise_cons.mpr ⟨fun z hz => ?_, ih hy.2⟩
        rcases (mem_insN x z ys).mp hz with rfl | hz
        · exact lt_tri _ _ h1 h2
        · exact hy.1 z hz
def setN (l : List (List UInt8)) : List (List UInt8) := l.foldr insN []
theorem mem_setN (z : List UInt8) (l : List (List UInt8)) : z ∈ setN l ↔ z ∈ l := by
  induction l with
  | nil => simp [setN]
  | cons x l ih => show z ∈ insN x (setN l) ↔ _; rw [mem_insN, ih, List.mem_cons]
theorem setN_lt (l : List (List UInt8)) : (setN l).Pairwise (· < ·) := by
  induction l with
  | nil => exact List.Pairwise.nil
  | cons x l ih => exact insN_lt x _ ih
theorem setN_nodup (l : List (List UInt8)) : (setN l).Nodup := List.nodup_iff_pairwise_ne.mpr ((setN_lt l).imp (fun h e => by subst e; exact List.lt_irrefl _ h))
theorem setN_sorted (l : List (List UInt8)) : (setN l).mergeSort leB = setN l :=
  List.mergeSort_of_pairwise ((setN_lt l).imp (fun h => by simp only [leB, decide_eq_true_eq]; exact List.le_of_lt h))
/-! what Diff19 writes -/
def names (l0 l1 : List S38) : List (List UInt8) := setN (l0.map (fun s => s.f0.data.toList) ++ l1.map (fun s => s.f0.data.toList))
def lineS (l0 l1 : List S38) (n : List UInt8) : List UInt8 :=
  if (look l1 ⟨n.toArray⟩).2 = true then (if (look l0 ⟨n.toArray⟩).2 = true ∧ (look l0 ⟨n.toArray⟩).1 = (look l1 ⟨n.toArray⟩).1 then [] else [115, 101, 116, 32] ++ n ++ [32] ++ (look l1 ⟨n.toArray⟩).1.data.toList ++ [10])
  else [117, 110, 115, 101, 116, 32] ++ n ++ [10]
def diffS (l0 l1 : List S38) : ByteArray := ⟨((names l0 l1).flatMap (lineS l0 l1)).toArray⟩
def Fine (l : List S38) : Prop := l.length ≤ 1048576 ∧ ∀ x ∈ l, x.f0.size ≤ 1048576 ∧ x.f1.size ≤ 1048576
def DiffOk (l0 l1 : List S38) : Prop := Fine l0 ∧ Fine l1
instance (l0 l1 : List S38) : Decidable (DiffOk l0 l1) := by unfold DiffOk Fine; exact inferInstance
theorem look_mem (l : List S38) (n : ByteArray) (h : (look l n).2 = true) : ∃ s ∈ l, s.f0 = n ∧ (look l n).1 = s.f1 := by
  unfold look at h ⊢
  split at h
  · rename_i s hs
    exact ⟨s, List.mem_reverse.mp (List.mem_of_find?_eq_some hs), by simpa using List.find?_some hs, rfl⟩
  · cases h
theorem look_has (l : List S38) (n : ByteArray) : (look l n).2 = true ↔ ∃ s ∈ l, s.f0 = n := by
  constructor
  · intro h
    obtain ⟨s, h1, h2, _⟩ := look_mem l n h
    exact ⟨s, h1, h2⟩
  · rintro ⟨s, h1, h2⟩
    unfold look
    split
    · rfl
    · rename_i hs
      have := List.find?_eq_none.mp hs s (List.mem_reverse.mpr h1)
      simp [h2] at this
theorem mem_names (l0 l1 : List S38) (n : List UInt8) : n ∈ names l0 l1 ↔ (look l0 ⟨n.toArray⟩).2 = true ∨ (look l1 ⟨n.toArray⟩).2 = true := by
  have one : ∀ l : List S38, n ∈ l.map (fun s => s.f0.data.toList) ↔ (look l ⟨n.toArray⟩).2 = true := by
    intro l
    rw [look_has, List.mem_map]
    constructor
    · rintro ⟨s, h1, h2⟩; exact ⟨s, h1, bytes_ext (by rw [h2])⟩
    · rintro ⟨s, h1, h2⟩; exact ⟨s, h1, by rw [h2]⟩
  unfold names
  rw [mem_setN, List.mem_append, one, one]
theorem insN_length (x : List UInt8) : ∀ ys, (insN x ys).length ≤ ys.length + 1 := by
  intro ys
  induction ys with
  | nil => simp [insN]
  | cons y ys ih =>
    unfold insN
    split
    · simp
    · split
      · simp
      · simp only [List.length_cons]; omega
theorem setN_length (l : List (List UInt8)) : (setN l).length ≤ l.length := by
  induction l with
  | nil => simp [setN]
  | cons x l ih => show (insN x (setN l)).length ≤ _; have := insN_length x (setN l); simp only [List.length_cons]; omega
theorem names_length (l0 l1 : List S38) (h : DiffOk l0 l1) : (names l0 l1).length ≤ 2097152 := by
  have := setN_length (l0.map (fun s => s.f0.data.toList) ++ l1.map (fun s => s.f0.data.toList))
  simp only [List.length_append, List.length_map] at this
  have h1 := h.1.1
  have h2 := h.2.1
  unfold names
  omega
theorem look_size (l : List S38) (n : ByteArray) (h : Fine l) : (look l n).1.size ≤ 1048576 := by
  cases e : (look l n).2
  · have : (look l n).1 = ⟨#[]⟩ := by
      unfold look at e ⊢
      split at e
      · cases e
      · rfl
    rw [this]; decide
  · obtain ⟨s, h1, _, h3⟩ := look_mem l n e
    rw [h3]; exact (h.2 s h1).2
theorem name_size (l0 l1 : List S38) (h : DiffOk l0 l1) (n : List UInt8) (hn : n ∈ names l0 l1) : n.length ≤ 1048576 := by
  have one : ∀ l : List S38, Fine l → (look l ⟨n.toArray⟩).2 = true → n.length ≤ 1048576 := by
    intro l hf h
    obtain ⟨s, h1, h2⟩ := (look_has l _).mp h
    have := (hf.2 s h1).1
    rw [h2, Lib.size_eq] at this
    simpa using this
  rcases (mem_names l0 l1 n).mp hn with h1 | h1
  · exact one l0 h.1 h1
  · exact one l1 h.2 h1
theorem line_size (l0 l1 : List S38) (h : DiffOk l0 l1) (n : List UInt8) (hn : n ∈ names l0 l1) : (lineS l0 l1 n).length ≤ 2097162 := by
  have h1 := name_size l0 l1 h n hn
  have h2 : (look l1 ⟨n.toArray⟩).1.data.toList.length ≤ 1048576 := by
    have := look_size l1 ⟨n.toArray⟩ h.2
    rw [← Lib.size_eq]; exact this
  unfold lineS
  split
  · split
    · simp
    · simp only [List.length_append, List.length_cons, List.length_nil]; omega
  · simp only [List.length_append, List.length_cons, List.length_nil]; omega
theorem text_size (l0 l1 : List S38) (h : DiffOk l0 l1) (i : Nat) : (((names l0 l1).take i).flatMap (lineS l0 l1)).length ≤ i * 2097162 := by
  induction i with
  | zero => simp
  | succ i ih =>
    obtain ⟨m, hm⟩ : ∃ m, i * 2097162 = m := ⟨_, rfl⟩
    rw [Nat.succ_mul, hm]
    rw [hm] at ih
    by_cases hi : i < (names l0 l1).length
    · rw [List.take_succ_eq_append_getElem hi, List.flatMap_append, List.length_append]
      have := line_size l0 l1 h _ (List.getElem_mem hi)
      simp only [List.flatMap_cons, List.flatMap_nil, List.append_nil]
      omega
    · rw [List.take_of_length_le (by omega)] at ih ⊢
      omega
/-! what the maps say -/
theorem mapD_es (l : List S38) {w : World} {b n : Nat} (h : w.ownsMap Tryd.prog 9 (plainElem (H := Unit) Tryd.prog 9) b n (mapD l)) : ∃ es, mapD l = .map es ∧ ∀ p ∈ es, WideAt.IsKeyLit p.1 := by
  obtain ⟨es, h1, _, h3⟩ := h.entries law9
  exact ⟨es, h1, h3⟩
theorem has_merged (l0 l1 : List S38) {w : World} {b n : Nat} (h : w.ownsMap Tryd.prog 9 (plainElem (H := Unit) Tryd.prog 9) b n (mapD l1)) (k : List UInt8) :
    Maps.has (Lib.mergeD (mapD l0) (mapD l1)) (.string k) = ((look l0 ⟨k.toArray⟩).2 || (look l1 ⟨k.toArray⟩).2) := by
  obtain ⟨es, h1, h3⟩ := mapD_es l1 h
  have e0 := (look_spec ⟨k.toArray⟩ l0).2
  have e1 := (look_spec ⟨k.toArray⟩ l1).2
  rw [h1] at e1 ⊢
  unfold Lib.mergeD
  rw [has_foldPut _ es _ (isMap_mapD l0) h3, e0, ← e1, has_eq]
theorem names_perm (l0 l1 : List S38) {w w' : World} {b n b' n' : Nat} (h : w.ownsMap Tryd.prog 9 (plainElem (H := Unit) Tryd.prog 9) b n (mapD l1)) (hm : w'.ownsMap Tryd.prog 9 (plainElem (H := Unit) Tryd.prog 9) b' n' (Lib.mergeD (mapD l0) (mapD l1))) :
    (names l0 l1).Perm (strKeys (Lib.mergeD (mapD l0) (mapD l1))) := by
  obtain ⟨es, h1, h2, _⟩ := hm.entries law9
  obtain ⟨es', h1', h3⟩ := hm.keysOf
  rw [h1] at h1'
  injection h1' with e
  subst e
  have hh := fun k => has_merged l0 l1 h k
  rw [h1] at hh ⊢
  refine perm_strKeys h2 (fun p hp => ?_) (setN_nodup _) (fun x => ?_)
  · obtain ⟨v, hv⟩ := h3 p hp
    obtain ⟨x, _, e, _⟩ := Maps.keyOf_str Tryd.underlying9 hv
    exact ⟨x, e⟩
  · rw [hh, Bool.or_eq_true]
    exact mem_names l0 l1 x
/-! memory -/
noncomputable abbrev R9 := plainElem (H := Unit) Tryd.prog 9
theorem owns_at {w w' : World} {b n B : Nat} {D : DataW Unit} (h : w.ownsMap Tryd.prog 9 R9 b n D) (hb : Below B w w') (hlt : b < B) : w'.ownsMap Tryd.prog 9 R9 b n D := by
  obtain ⟨es, clock, h1, F, hs, hD⟩ := h
  exact ⟨es, clock, (hb.block b hlt).trans h1, F, hs, hD⟩
/-- The names' row: its elements lie, and it is no row of bytes. -/
def NamesAt (w : World) (B : Nat) (v : Value) (K : List (List UInt8)) : Prop := ∃ (A : Option Addr) (cap : Nat), v = .slice A K.length cap ∧ ∀ i, i < K.length → ∃ g cur, A = some ⟨g, 0, none⟩ ∧ B < g ∧ w.heap[g]? = some (.cells cur 9 (0, 0)) ∧ cur[i]? = some (.string ⟨(K.getD i []).toArray⟩)
theorem namesAt_of {w : World} {base B : Nat} {v : Value} {K : List (List UInt8)} (h : w.ownsRow base 9 1 v K.length (K.map encStr)) (hB : B < base) : NamesAt w B v K := by
  obtain ⟨h1, ⟨rfl, h2⟩ | ⟨g, cap, cur, rfl, hg, hc, _, _, _, ht⟩⟩ := h
  · refine ⟨none, 0, by rw [h2], fun i hi => by omega⟩
  · refine ⟨_, cap, rfl, fun i hi => ⟨g, cur, rfl, by omega, hc, ?_⟩⟩
    have e : (cur.toList.take (K.length * 1))[i]? = (K.map encStr)[i]? := by rw [ht]
    rw [List.getElem?_take_of_lt (by omega), List.getElem?_map] at e
    rw [← Array.getElem?_toList, e]
    simp [hi, encStr]
theorem namesAt_kept {w w' : World} {B : Nat} {v : Value} {K : List (List UInt8)} (h : NamesAt w B v K) (hk : Lib.OthersKept 5 (some B) w w') : NamesAt w' B v K := by
  obtain ⟨A, cap, hv, h⟩ := h
  refine ⟨A, cap, hv, fun i hi => ?_⟩
  obtain ⟨g, cur, e, hB, hc, hi2⟩ := h i hi
  exact ⟨g, cur, e, hB, hk g _ hc (by simp; omega) (fun c fz e2 => by injection e2 with _ e3 _; exact absurd e3 (by decide)), hi2⟩
theorem names_cell {w : World} {B : Nat} {v : Value} {K : List (List UInt8)} (h : NamesAt w B v K) (i : Nat) (hi : i < K.length) : ∃ (ad : Addr) (cap : Nat), v = .slice (some ad) K.length cap ∧ w.cell? (ad.add i) = some (.string ⟨(K.getD i []).toArray⟩) := by
  obtain ⟨A, cap, hv, h⟩ := h
  obtain ⟨g, cur, rfl, _, hc, hi2⟩ := h i hi
  have e : (⟨g, 0, none⟩ : Addr).add i = ⟨g, i, none⟩ := by
    by_cases h0 : i = 0
    · subst h0; exact Addr.add_zero' _
    · simp [Addr.add, h0]
  exact ⟨_, cap, hv, by rw [e, Lib.cell_of_heap hc]; exact hi2⟩
theorem take_names {l0 l1 : List S38} {i : Nat} (hi : i < (names l0 l1).length) : ((names l0 l1).take (i + 1)).flatMap (lineS l0 l1) = ((names l0 l1).take i).flatMap (lineS l0 l1) ++ lineS l0 l1 ((names l0 l1).getD i []) := by
  rw [take_getD [] hi, List.flatMap_append]
  simp
theorem cells_app (a : List UInt8) (s : ByteArray) : Lib.byteCells a ++ Lib.strCells s = Lib.byteCells (a ++ s.data.toList) := by
  rw [Lib.strCells_eq]; simp [Lib.byteCells]
theorem clone_calls (b n : Nat) (D : DataW Unit) (w : World) (h : w.ownsMap Tryd.prog 9 R9 b n D) :
    Calls Tryd.prog 24 #[.map (some b)] w fun e w' => e = .returned (.map (some w.heap.size)) ∧ w'.ownsMap Tryd.prog 9 R9 w.heap.size n D ∧ w'.ownsMap Tryd.prog 9 R9 b n D ∧ Below w.heap.size w w' :=
  AnyW.maps_Clone_owns Tryd.clone24 9 R9 b n D w h
theorem copy_calls (bd bs nd ns : Nat) (Dd Ds : DataW Unit) (w : World) (hd : w.ownsMap Tryd.prog 9 R9 bd nd Dd) (hs : w.ownsMap Tryd.prog 9 R9 bs ns Ds) (hne : bd ≠ bs) (hroom : nd + Maps.size Ds ≤ maxLen) :
    Calls Tryd.prog 25 #[.map (some bd), .map (some bs)] w fun e w' => e = .returned (.tuple #[]) ∧ w'.ownsMap Tryd.prog 9 R9 bd (nd + Maps.size Ds) (Lib.mergeD Dd Ds) ∧ w'.ownsMap Tryd.prog 9 R9 bs ns Ds ∧ w.grownBy w' (some bd) :=
  AnyX.maps_Copy Tryd.copy25 law9 R9 bd bs nd ns Dd Ds w hd hs hne hroom
theorem keys_calls (b : Nat) (w : World) : Calls Tryd.prog 27 #[.map (some b)] w fun e w' => e = .returned (.func (.func 47) #[] #[.pointer (some ⟨w.heap.size, 0, none⟩)]) ∧ w' = w.alloc (.cells #[.map (some b)] 45) :=
  (callsIn_wide (n := 5)).1 (Tryd.maps_Keys_27 (some b) w)
theorem sorted_calls (l0 l1 : List S38) (b n b1 n1 : Nat) (w : World) (c : DiffOk l0 l1) (h : w.ownsMap Tryd.prog 9 R9 b n (Lib.mergeD (mapD l0) (mapD l1))) (h1 : w.ownsMap Tryd.prog 9 R9 b1 n1 (mapD l1)) (hn : n ≤ 2097152) (B : Nat) (hB : B ≤ w.heap.size) (g : Nat) (hg : w.heap.size = g) :
    Calls Tryd.prog 26 #[.func (.func 47) #[] #[.pointer (some ⟨g, 0, none⟩)]] (w.alloc (.cells #[.map (some b)] 45)) fun e w' => ∃ v, e = .returned v ∧ NamesAt w' B v (names l0 l1) ∧ Below (w.heap.size + 1) (w.alloc (.cells #[.map (some b)] 45)) w' := by
  subst hg
  have hs := h.size_le
  refine ((callsIn_wide (n := 5)).1 (Tryd.slices_Sorted_keys_26_27 b n _ R9 w h (by unfold maxLen; omega) (by omega))).mono ?_
  rintro e w' ⟨v, ss, rfl, hS, hrow, _, hb⟩
  have hp := names_perm l0 l1 h1 h
  have hq := hS.trans hp.symm
  have e1 : ss.mergeSort (fun x y => decide (x ≤ y)) = names l0 l1 := (mergeSort_of_perm hq).trans (setN_sorted _)
  rw [e1, hq.length_eq] at hrow
  have e2 : (w.alloc (.cells #[.map (some b)] 45)).heap.size = w.heap.size + 1 := by simp
  rw [e2] at hrow hb
  exact ⟨v, rfl, namesAt_of hrow (by omega), hb⟩
/-- The loop's relation. -/
def LoopR (l0 l1 : List S38) (w : World) (vN : Value) (ba bb gB : Nat) (wr : World) (i : Nat) : Prop :=
  NamesAt wr gB vN (names l0 l1) ∧ (wr.ownsMap Tryd.prog 9 R9 ba l0.length (mapD l0) ∧ ba < gB) ∧ (wr.ownsMap Tryd.prog 9 R9 bb l1.length (mapD l1) ∧ bb < gB) ∧ Lib.IsBuilderF 51 5 gB gB (Lib.byteCells (((names l0 l1).take i).flatMap (lineS l0 l1))) wr ∧ Below w.heap.size w wr ∧ w.heap.size ≤ gB ∧ gB ≤ wr.heap.size
theorem builder_new {gB : Nat} {w : World} (h : w.heap[gB]? = some (.cells #[.pointer none, .slice none 0 0] 51 (0, 0))) : Lib.IsBuilderF 51 5 gB gB (Lib.byteCells []) w :=
  Lib.IsBuilderF.of (.inl ⟨Nat.le_refl _, _, h, ⟨rfl, .inl ⟨rfl, rfl⟩⟩, by simp [Value.ownBlock]⟩)
theorem loop_start (l0 l1 : List S38) (w w6 w9 : World) (vN : Value) (ba bb bd : Nat) (hN : NamesAt w9 w6.heap.size vN (names l0 l1)) (ha : w6.ownsMap Tryd.prog 9 R9 ba l0.length (mapD l0)) (hb : w6.ownsMap Tryd.prog 9 R9 bb l1.length (mapD l1)) (hw : Below w.heap.size w w6)
    (h9 : Below ((w6.alloc (.cells #[.pointer none, .slice none 0 0] 51)).heap.size + 1) ((w6.alloc (.cells #[.pointer none, .slice none 0 0] 51)).alloc (.cells #[.map (some bd)] 45)) w9) : LoopR l0 l1 w vN ba bb w6.heap.size w9 0 := by
  have e7 : (w6.alloc (.cells #[.pointer none, .slice none 0 0] 51)).heap.size = w6.heap.size + 1 := by simp
  have e8 : ((w6.alloc (.cells #[.pointer none, .slice none 0 0] 51)).alloc (.cells #[.map (some bd)] 45)).heap.size = w6.heap.size + 2 := by simp
  rw [e7] at h9
  have s9 := h9.size
  rw [e8] at s9
  have la := ha.lt
  have lb := hb.lt
  have hs := hw.size
  refine ⟨hN, ⟨owns_at ((ha.alloc _).alloc _) h9 (by omega), la⟩, ⟨owns_at ((hb.alloc _).alloc _) h9 (by omega), lb⟩, ?_, ?_, hs, by omega⟩
  · refine builder_new ?_
    rw [h9.block _ (by omega)]
    exact blk_alloc (blk_new w6 _) _
  · exact ((hw.alloc hs _).alloc (by rw [e7]; omega) _).trans (h9.mono (by omega))
theorem loop_write {l0 l1 : List S38} {w wr w' : World} {vN : Value} {ba bb gB i : Nat} {s : ByteArray} (h : LoopR l0 l1 w vN ba bb gB wr i) (hi : i < (names l0 l1).length) (hs : s.data.toList = lineS l0 l1 ((names l0 l1).getD i []))
    (hb : Lib.BuilderAtF 51 5 gB gB (.pointer (some ⟨gB, 0, none⟩)) (Lib.byteCells (((names l0 l1).take i).flatMap (lineS l0 l1)) ++ Lib.strCells s) w') (hB : Below gB wr w') (hk : Lib.OthersKept 5 (some gB) wr w') : LoopR l0 l1 w vN ba bb gB w' (i + 1) := by
  obtain ⟨hN, ⟨hoA, hA⟩, ⟨hoB, hBB⟩, _, hw, hgw, hgr⟩ := h
  refine ⟨namesAt_kept hN hk, ⟨owns_at hoA hB hA, hA⟩, ⟨owns_at hoB hB hBB, hBB⟩, .inr ?_, hw.trans (hB.mono hgw), hgw, Nat.le_trans hgr hB.size⟩
  rw [take_names hi, ← hs, ← cells_app]
  exact hb
theorem loop_skip {l0 l1 : List S38} {w wr : World} {vN : Value} {ba bb gB i : Nat} (h : LoopR l0 l1 w vN ba bb gB wr i) (hi : i < (names l0 l1).length) (hs : lineS l0 l1 ((names l0 l1).getD i []) = []) : LoopR l0 l1 w vN ba bb gB wr (i + 1) := by
  obtain ⟨hN, h1, h2, hb, h3⟩ := h
  refine ⟨hN, h1, h2, ?_, h3⟩
  rw [take_names hi, hs, List.append_nil]
  exact hb
theorem write_calls (gB : Nat) (bs : List Value) (s : ByteArray) (w : World) (h : Lib.IsBuilderF 51 5 gB gB bs w) (hlen : bs.length + s.size ≤ 140737488355328) (hBw : gB ≤ w.heap.size) :
    Calls Tryd.prog 28 #[.pointer (some ⟨gB, 0, none⟩), .string s] w fun e w' => e = .returned (.tuple #[.int .i64 s.size, .nilIface]) ∧ (Lib.BuilderAtF 51 5 gB gB (.pointer (some ⟨gB, 0, none⟩)) (bs ++ Lib.strCells s) w' ∧ Below gB w w' ∧ Lib.OthersKept 5 (some gB) w w') :=
  Any.Builder_WriteString_k Tryd.lays166 Tryd.Builder_Extra_166 gB gB bs s w h hlen hBw
theorem text_cells (l0 l1 : List S38) (h : DiffOk l0 l1) (i : Nat) (hi : i ≤ 2097152) : (Lib.byteCells (((names l0 l1).take i).flatMap (lineS l0 l1))).length ≤ 4398067482624 := by
  rw [Lib.byteCells_length]
  exact Nat.le_trans (text_size l0 l1 h i) (Nat.le_trans (Nat.mul_le_mul_right _ hi) (by decide))
theorem toList_app (a b : ByteArray) : (a ++ b).data.toList = a.data.toList ++ b.data.toList := by simp
theorem string_calls (gB : Nat) (l : List UInt8) (w : World) (h : Lib.IsBuilderF 51 5 gB gB (Lib.byteCells l) w) (hBw : gB ≤ w.heap.size) :
    Calls Tryd.prog 29 #[.pointer (some ⟨gB, 0, none⟩)] w fun e w' => e = .returned (.string ⟨l.toArray⟩) ∧ Below gB w w' :=
  (Any.Builder_String_any_k Tryd.lays169 Tryd.Builder_Extra_169 gB gB l w h hBw).mono (fun e w' ⟨h1, _, h2, _⟩ => ⟨h1, h2⟩)
set_option maxHeartbeats 400000 in
set_option maxRecDepth 100000 in
theorem diff_calls (k : Nat) (A0 : Option Addr) (c0 : Nat) (l0 : List S38) (A1 : Option Addr) (c1 : Nat) (l1 : List S38) (t : Bool) (w : World) (hT : Aside0 (Go.Proofs.YtfepbnolgceadaaDoor.Hand.Tabs w)) (hr0 : Kd.C k38 w A0 l0.length l0) (hc0 : l0.length ≤ c0) (hr1 : Kd.C k38 w A1 l1.length l1) (hc1 : l1.length ≤ c1) (c : DiffOk l0 l1) (h1 : impl_SettingsOk.f k l0 = some t)
    (r : ByteArray) (h2 : (if t = true then ((impl_SettingsOk.f k l1).bind fun t2 => if t2 = true then some (diffS l0 l1) else some (⟨#[]⟩ : ByteArray)) else some (⟨#[]⟩ : ByteArray)) = some r) :
    Calls Tryd.prog 9 #[.slice A0 l0.length c0, .slice A1 l1.length c1] w fun e w' => e = .returned (.string r) ∧ Below w.heap.size w w' := by
  have cS := impl_SettingsOk.calls k A0 c0 l0 t w hT hr0 hc0 h1
  cases t
  · simp only [Bool.false_eq_true, if_false, Option.some.injEq] at h2
    subst h2
    clear hr0 hr1 hT c h1
    go_enter Tryd.func9, Tryd.ntmps9
    go_wp2_with (first | (go_at_call 22; refine cS.mono ?_; rintro e w1 ⟨rfl, hb1⟩))
    go_ret
    exact ⟨rfl, hb1⟩
  · simp only [if_true] at h2
    obtain ⟨t2, h3, h2⟩ := Option.bind_eq_some_iff.mp h2
    have cS2 : ∀ w1 : World, Below w.heap.size w w1 → Calls Tryd.prog 22 #[.slice A1 l1.length c1] w1 fun e w' => e = .returned (.bool t2) ∧ Below w1.heap.size w1 w' := fun w1 hb => impl_SettingsOk.calls k A1 c1 l1 t2 w1 (Go.Proofs.YtfepbnolgceadaaDoor.Hand.tabs_at hT hb) (Kd.C_below hr1 hb) hc1 h3
    have CS := Aside0.mk cS
    have CS2 := Aside0.mk cS2
    clear cS2 cS
    cases t2
    · simp only [Bool.false_eq_true, if_false, Option.some.injEq] at h2
      subst h2
      clear hr0 hr1 hT c h1 h3
      go_enter Tryd.func9, Tryd.ntmps9
      go_wp2_with (first | (go_at_call 22; (with_reducible refine CS.out.mono ?_); rintro e w1 ⟨rfl, hb1⟩) | (go_at_call 22; (with_reducible refine (CS2.out _ hb1).mono ?_); rintro e w2 ⟨rfl, hb2⟩))
      go_ret
      exact ⟨rfl, hb1.trans (hb2.mono hb1.size)⟩
    · simp only [if_true, Option.some.injEq] at h2
      subst h2
      have cM0 : ∀ w1 : World, Below w.heap.size w w1 → Calls Tryd.prog 23 #[.slice A0 l0.length c0] w1 fun e w' => e = .returned (.map (some w1.heap.size)) ∧ w'.ownsMap Tryd.prog 9 R9 w1.heap.size l0.length (mapD l0) ∧ Below w1.heap.size w1 w' :=
        fun w1 hb => mapOf_calls A0 c0 l0 w1 (Kd.C_below hr0 hb) c.1.1 (fun x hx => by have := c.1.2 x hx; unfold maxLen; omega)
      have cM1 : ∀ w1 : World, Below w.heap.size w w1 → Calls Tryd.prog 23 #[.slice A1 l1.length c1] w1 fun e w' => e = .returned (.map (some w1.heap.size)) ∧ w'.ownsMap Tryd.prog 9 R9 w1.heap.size l1.length (mapD l1) ∧ Below w1.heap.size w1 w' :=
        fun w1 hb => mapOf_calls A1 c1 l1 w1 (Kd.C_below hr1 hb) c.2.1 (fun x hx => by have := c.2.2 x hx; unfold maxLen; omega)
      have CM0 := Aside0.mk cM0
      have CM1 := Aside0.mk cM1
      have CC := Aside0.mk c
      have hn0 : l0.length ≤ 1048576 := c.1.1
      have hn1 : l1.length ≤ 1048576 := c.2.1
      clear hr0 hr1 hT c h1 h3 cM0 cM1
      go_enter Tryd.func9, Tryd.ntmps9
      go_wp2_with (first
        | (go_at_call 22; (with_reducible refine CS.out.mono ?_); rintro e w1 ⟨rfl, hb1⟩)
        | (go_at_call 22; (with_reducible refine (CS2.out _ hb1).mono ?_); rintro e w2 ⟨rfl, hb2⟩; have hb12 := hb1.trans (hb2.mono hb1.size))
        | (go_at_call 23; (with_reducible refine (CM0.out _ hb12).mono ?_); rintro e w3 ⟨rfl, ho3, hb3⟩; have hb13 := hb12.trans (hb3.mono hb12.size))
        | (go_at_call 23; (with_reducible refine (CM1.out _ hb13).mono ?_); rintro e w4 ⟨rfl, ho4, hb4⟩; have hb14 := hb13.trans (hb4.mono hb13.size); have ho34 := owns_at ho3 hb4 ho3.lt)
        | (go_at_call 24; (with_reducible refine (clone_calls _ _ _ w4 ho34).mono ?_); rintro e w5 ⟨rfl, ho5, ho35, hb5⟩; have hb15 := hb14.trans (hb5.mono hb14.size); have ho45 := owns_at ho4 hb5 ho4.lt)
        | (go_at_call 25; have hroom : l0.length + Maps.size (mapD l1) ≤ maxLen := (by have := ho45.size_le; unfold maxLen; omega); (with_reducible refine (copy_calls _ _ _ _ _ _ w5 ho5 ho45 (Nat.ne_of_gt ho4.lt) hroom).mono ?_); rintro e w6 ⟨rfl, ho6, ho46, hg6⟩; have ho36 := ho35.kept hg6 (by intro e_; injection e_ with e_; have := ho34.lt; omega))
        | (go_at_call 27; (with_reducible refine (keys_calls _ _).mono ?_); rintro e w8 ⟨rfl, rfl⟩)
        | (go_at_call 26; have hs6 := ho46.size_le; have hsz7 : (w6.alloc (.cells #[.pointer none, .slice none 0 0] 51)).heap.size = w6.heap.size + 1 := (by simp); (with_reducible refine (sorted_calls l0 l1 _ _ _ _ (w6.alloc (.cells #[.pointer none, .slice none 0 0] 51)) CC.out (ho6.alloc _) (ho46.alloc _) (by omega) w6.heap.size (by omega) (w6.heap.size + 1) hsz7).mono ?_); rintro e w9 ⟨v9, rfl, hN, hb9⟩; obtain ⟨An, capn, ev, hN2⟩ := id hN; subst ev; clear hN2))
      have hb16 := hb15.grown hg6 hb15.size (fun j hj => by cases hj; exact hb14.size)
      have hL := loop_start l0 l1 w w6 w9 _ _ _ _ hN ho36 ho46 hb16 hb9
      have HL := Aside0.mk hL
      clear hL hN hb9 ho36 ho46 ho6 hg6 hb16 ho5 ho35 hb5 hb15 ho45 ho4 ho34 ho3 hb1 hb2 hb12 hb3 hb13 hb4 hb14 CS CS2 CM0 CM1
      go_loopg [36] (names l0 l1).length (fun gk v36 wr => ∃ i : Nat, v36 = .int .i64 i ∧ i + gk = (names l0 l1).length ∧ Aside0 (LoopR l0 l1 w (.slice An (names l0 l1).length capn) w2.heap.size w3.heap.size w6.heap.size wr i))
      case atStart => exact ⟨0, rfl, by omega, HL⟩
      case round =>
        obtain ⟨i, rfl, hi, HR⟩ := hrel
        by_cases hlt : i < (names l0 l1).length
        · obtain ⟨g', rfl⟩ : ∃ g', gk = g' + 1 := ⟨gk - 1, by omega⟩
          obtain ⟨hN, ⟨hoA, hA⟩, ⟨hoB, hB⟩, hbd, hw, hgw, hgr⟩ := id HR.out
          obtain ⟨ad, cap, ev, hcell⟩ := names_cell hN i hlt
          injection ev with e1 e2 e3
          subst e1
          clear e2 e3 hN cap
          obtain ⟨K, hK⟩ : ∃ K, (names l0 l1).getD i [] = K := ⟨_, rfl⟩
          have hKm : K ∈ names l0 l1 := by rw [← hK]; simp [hlt]
          have hKs := name_size l0 l1 CC.out K hKm
          have hnl := names_length l0 l1 CC.out
          have hts := text_cells l0 l1 CC.out i (by omega)
          rw [hK] at hcell
          obtain ⟨nB, hnB⟩ : ∃ nB : ByteArray, (⟨K.toArray⟩ : ByteArray) = nB := ⟨_, rfl⟩
          have hnK : nB.data.toList = K := by rw [← hnB]
          have hnS : nB.size ≤ 1048576 := by rw [Lib.size_eq, hnK]; exact hKs
          rw [hnB] at hcell
          have hkey : keyOf Tryd.prog 9 (.string nB) = some (.string nB.data.toList) := keyOf_string_mk Tryd.underlying9 (by unfold maxLen; omega)
          have hz0 : R9 (.string ⟨#[]⟩) = some (.lit (.string []), []) := plainElem_string Tryd.underlying9 (by decide)
          have LS0 := Aside0.mk (look_spec nB l0)
          have LS1 := Aside0.mk (look_spec nB l1)
          have LZ := Aside0.mk (look_size l1 nB CC.out.2)
          obtain ⟨x, was, hx⟩ : ∃ x was, look l0 nB = (x, was) := ⟨_, _, rfl⟩
          obtain ⟨y, is, hy⟩ : ∃ y is, look l1 nB = (y, is) := ⟨_, _, rfl⟩
          have hline : lineS l0 l1 K = if is = true then (if was = true ∧ x = y then [] else [115, 101, 116, 32] ++ K ++ [32] ++ y.data.toList ++ [10]) else [117, 110, 115, 101, 116, 32] ++ K ++ [10] := by
            unfold lineS; rw [hnB, hx, hy]
          rw [hx] at LS0
          rw [hy] at LS1 LZ
          have HLN := Aside0.mk hline
          have HNS := Aside0.mk hnS
          have HTS := Aside0.mk hts
          have HNL := Aside0.mk hnl
          have hyz := LZ.out
          have q1 : (9223372036854775807 < 6 + nB.size) = False := eq_false (by omega)
          have q2 : (9223372036854775807 < 6 + nB.size + 1) = False := eq_false (by omega)
          have q3 : (9223372036854775807 < 4 + nB.size) = False := eq_false (by omega)
          have q4 : (9223372036854775807 < 4 + nB.size + 1) = False := eq_false (by omega)
          have q5 : (9223372036854775807 < 4 + nB.size + 1 + y.size) = False := eq_false (by simp only at hyz; omega)
          have q6 : (9223372036854775807 < 4 + nB.size + 1 + y.size + 1) = False := eq_false (by simp only at hyz; omega)
          have hw1 : wrap64 ((i : Int) + 1) = ((i + 1 : Nat) : Int) := (w64 (by omega) (by omega)).trans (by omega)
          clear hline hnB hx hy hKm hKs hts hnl hnS hyz
          cases is
          · have hwr := write_calls w6.heap.size _ ((⟨#[117, 110, 115, 101, 116, 32]⟩ : ByteArray) ++ nB ++ (⟨#[10]⟩ : ByteArray)) wr hbd (by
              have := HTS.out; have := HNS.out
              rw [ByteArray.size_append, ByteArray.size_append]
              have e1 : (⟨#[117, 110, 115, 101, 116, 32]⟩ : ByteArray).size = 6 := rfl
              have e2 : (⟨#[10]⟩ : ByteArray).size = 1 := rfl
              omega) hgr
            go_wp2_with (first
              | (at_lookup; refine wpList_lookup_own_ok _ rfl _ _ 45 rfl 9 9 law9 Tryd.underlying45 R9 (zero9 _) _ [] hz0 _ _ _ rfl hoA _ _ rfl hkey ?_; intro v ps hv; rw [LS0.out.1] at hv; rw [LS0.out.2]; obtain ⟨s, rfl, hz, hsz⟩ := plainElem_string_inv Tryd.underlying9 hv; obtain rfl : x = s := bytes_ext (by injection (congrArg Prod.fst hz) with e0; injection e0); clear hv hz)
              | (at_lookup; refine wpList_lookup_own_ok _ rfl _ _ 45 rfl 9 9 law9 Tryd.underlying45 R9 (zero9 _) _ [] hz0 _ _ _ rfl hoB _ _ rfl hkey ?_; intro v ps hv; rw [LS1.out.1] at hv; rw [LS1.out.2]; obtain ⟨s, rfl, hz, hsz⟩ := plainElem_string_inv Tryd.underlying9 hv; obtain rfl : y = s := bytes_ext (by injection (congrArg Prod.fst hz) with e0; injection e0); clear hv hz)
              | (go_at_call 28; (with_reducible refine hwr.mono ?_); rintro e w' ⟨rfl, hbd2, hb2, hk2⟩))
            go_roundg g'
            case measure => omega
            case rel => exact ⟨i + 1, by first | rfl | rw [hw1] | go_num, by omega, ⟨loop_write HR.out hlt (by rw [hK, HLN.out, toList_app, toList_app, hnK]; simp) hbd2 hb2 hk2⟩⟩
          · cases was
            · have hwr := write_calls w6.heap.size _ ((⟨#[115, 101, 116, 32]⟩ : ByteArray) ++ nB ++ (⟨#[32]⟩ : ByteArray) ++ y ++ (⟨#[10]⟩ : ByteArray)) wr hbd (by
                  have := HTS.out; have := HNS.out; have hyz := LZ.out
                  rw [ByteArray.size_append, ByteArray.size_append, ByteArray.size_append, ByteArray.size_append]
                  have e1 : (⟨#[115, 101, 116, 32]⟩ : ByteArray).size = 4 := rfl
                  have e2 : (⟨#[10]⟩ : ByteArray).size = 1 := rfl
                  have e3 : (⟨#[32]⟩ : ByteArray).size = 1 := rfl
                  simp only at hyz
                  omega) hgr
              go_wp2_with (first
                | (at_lookup; refine wpList_lookup_own_ok _ rfl _ _ 45 rfl 9 9 law9 Tryd.underlying45 R9 (zero9 _) _ [] hz0 _ _ _ rfl hoA _ _ rfl hkey ?_; intro v ps hv; rw [LS0.out.1] at hv; rw [LS0.out.2]; obtain ⟨s, rfl, hz, hsz⟩ := plainElem_string_inv Tryd.underlying9 hv; obtain rfl : x = s := bytes_ext (by injection (congrArg Prod.fst hz) with e0; injection e0); clear hv hz)
                | (at_lookup; refine wpList_lookup_own_ok _ rfl _ _ 45 rfl 9 9 law9 Tryd.underlying45 R9 (zero9 _) _ [] hz0 _ _ _ rfl hoB _ _ rfl hkey ?_; intro v ps hv; rw [LS1.out.1] at hv; rw [LS1.out.2]; obtain ⟨s, rfl, hz, hsz⟩ := plainElem_string_inv Tryd.underlying9 hv; obtain rfl : y = s := bytes_ext (by injection (congrArg Prod.fst hz) with e0; injection e0); clear hv hz)
                | (go_at_call 28; (with_reducible refine hwr.mono ?_); rintro e w' ⟨rfl, hbd2, hb2, hk2⟩))
              go_roundg g'
              case measure => omega
              case rel => exact ⟨i + 1, by first | rfl | rw [hw1] | go_num, by omega, ⟨loop_write HR.out hlt (by rw [hK, HLN.out, toList_app, toList_app, toList_app, toList_app, hnK]; simp) hbd2 hb2 hk2⟩⟩
            · by_cases hxy : x = y
              · subst hxy
                have hxt : (x.toList == x.toList) = true := beq_self_eq_true _
                go_wp2_with (first
                  | (at_lookup; refine wpList_lookup_own_ok _ rfl _ _ 45 rfl 9 9 law9 Tryd.underlying45 R9 (zero9 _) _ [] hz0 _ _ _ rfl hoA _ _ rfl hkey ?_; intro v ps hv; rw [LS0.out.1] at hv; rw [LS0.out.2]; obtain ⟨s, rfl, hz, hsz⟩ := plainElem_string_inv Tryd.underlying9 hv; obtain rfl : x = s := bytes_ext (by injection (congrArg Prod.fst hz) with e0; injection e0); clear hv hz)
                  | (at_lookup; refine wpList_lookup_own_ok _ rfl _ _ 45 rfl 9 9 law9 Tryd.underlying45 R9 (zero9 _) _ [] hz0 _ _ _ rfl hoB _ _ rfl hkey ?_; intro v ps hv; rw [LS1.out.1] at hv; rw [LS1.out.2]; obtain ⟨s, rfl, hz, hsz⟩ := plainElem_string_inv Tryd.underlying9 hv; obtain rfl : x = s := bytes_ext (by injection (congrArg Prod.fst hz) with e0; injection e0); clear hv hz))
                go_roundg g'
                case measure => omega
                case rel => exact ⟨i + 1, by first | rfl | rw [hw1] | go_num, by omega, ⟨loop_skip HR.out hlt (by rw [hK, HLN.out]; simp)⟩⟩
              · have hxt : (x.toList == y.toList) = false := by rw [beq_eq_false_iff_ne]; exact fun e_ => hxy (bytes_ext (by rw [← Lib.toList_data, ← Lib.toList_data]; exact e_))
                have hwr := write_calls w6.heap.size _ ((⟨#[115, 101, 116, 32]⟩ : ByteArray) ++ nB ++ (⟨#[32]⟩ : ByteArray) ++ y ++ (⟨#[10]⟩ : ByteArray)) wr hbd (by
                    have := HTS.out; have := HNS.out; have hyz := LZ.out
                    rw [ByteArray.size_append, ByteArray.size_append, ByteArray.size_append, ByteArray.size_append]
                    have e1 : (⟨#[115, 101, 116, 32]⟩ : ByteArray).size = 4 := rfl
                    have e2 : (⟨#[10]⟩ : ByteArray).size = 1 := rfl
                    have e3 : (⟨#[32]⟩ : ByteArray).size = 1 := rfl
                    simp only at hyz
                    omega) hgr
                go_wp2_with (first
                  | (at_lookup; refine wpList_lookup_own_ok _ rfl _ _ 45 rfl 9 9 law9 Tryd.underlying45 R9 (zero9 _) _ [] hz0 _ _ _ rfl hoA _ _ rfl hkey ?_; intro v ps hv; rw [LS0.out.1] at hv; rw [LS0.out.2]; obtain ⟨s, rfl, hz, hsz⟩ := plainElem_string_inv Tryd.underlying9 hv; obtain rfl : x = s := bytes_ext (by injection (congrArg Prod.fst hz) with e0; injection e0); clear hv hz)
                  | (at_lookup; refine wpList_lookup_own_ok _ rfl _ _ 45 rfl 9 9 law9 Tryd.underlying45 R9 (zero9 _) _ [] hz0 _ _ _ rfl hoB _ _ rfl hkey ?_; intro v ps hv; rw [LS1.out.1] at hv; rw [LS1.out.2]; obtain ⟨s, rfl, hz, hsz⟩ := plainElem_string_inv Tryd.underlying9 hv; obtain rfl : y = s := bytes_ext (by injection (congrArg Prod.fst hz) with e0; injection e0); clear hv hz)
                  | (go_at_call 28; (with_reducible refine hwr.mono ?_); rintro e w' ⟨rfl, hbd2, hb2, hk2⟩))
                go_roundg g'
                case measure => omega
                case rel => exact ⟨i + 1, by first | rfl | rw [hw1] | go_num, by omega, ⟨loop_write HR.out hlt (by rw [hK, HLN.out, toList_app, toList_app, toList_app, toList_app, hnK]; simp [hxy]) hbd2 hb2 hk2⟩⟩
        · obtain rfl : i = (names l0 l1).length := by omega
          obtain ⟨hN, _, _, hbd, hw, hgw, hgr⟩ := id HR.out
          rw [List.take_length] at hbd
          have hst := string_calls w6.heap.size _ wr hbd hgr
          go_wp2_with (first | (go_at_call 29; (with_reducible refine hst.mono ?_); rintro e w' ⟨rfl, hb2⟩))
          go_ret
          exact ⟨rfl, hw.trans (hb2.mono hgw)⟩
end Hand
end Go.Proofs.YtfepbnolgceadaaDoor.MFnExactConfigure
