/- What impl.settingsOf answers, and that the code comes to it. -/
import Derived.Test.YtfepbnolgceadaaDoorHandDiffDEFnExactConfigure
import Derived.Test.YtfepbnolgceadaaDoorHandConfPEFnExactConfigure
namespace Go.Proofs.YtfepbnolgceadaaDoor.MFnExactConfigure
open Go.Proofs.YtfepbnolgceadaaDoor
open Go Go.RowKit Go.Maps Go.WideMaps Go.Proofs.YtfepbnolgceadaaDoor.Mine Go.Proofs.YtfepbnolgceadaaDoorW.PrintWords Go.Proofs.YtfepbnolgceadaaDoorW.PrintLast Go.Proofs.YtfepbnolgceadaaDoorW.PrintMore
attribute [local go_sem] max2_int min2_int max_two min_two max_three min_three max_four min_four
set_option linter.unusedVariables false
set_option linter.unusedSimpArgs false
open Go.Sort
namespace Hand
section
variable {H : Type} {P : Program} (w : World) {ops : Array Oper} {rest : List Oper} {o : Oper} {a : Act} {Q : Exit → Act → World → Prop}
/-- 'm[k]' at elements that are strings. -/
theorem wpList_lookup_own_str (hg : o.guard = none) (m x : Operand) (t : TypeId) (hop : o.op = Op.lookup t m x false)
    (k e : TypeId) (K : Keyed P k) (ht : P.underlying t = some (.map k e)) (he : P.underlying e = some .string) (hz : (zeroValue e).run P w = .ok (.string ⟨#[]⟩) w) (b n : Nat) (D : DataW H)
    (hm : a.eval m = .map (some b)) (hown : w.ownsMap P k (plainElem P e) b n D) (key : Value) (kl : Lit) (hx : a.eval x = key) (hkey : keyOf P k key = some kl)
    (hK : ∀ s : ByteArray, D.atKey kl (.lit (.string [])) = .lit (.string s.data.toList) → s.size ≤ maxLen → wpList P ops Q rest (a.put o.dst (.string s)) w) :
    wpList P ops Q (o :: rest) a w := by
  refine wpList_plain hg fun K' hK' => ?_
  obtain ⟨v, ps, hrun, hv⟩ := hown.lookup K ht hz (plainElem_string he (by decide)) hkey
  obtain ⟨s, rfl, hs, hl⟩ := plainElem_string_inv he hv
  unfold Oper.wp
  simp [execOp, hop, hm, hx, hrun, Result.andThen]
  exact hK' _ _ (hK s (by injection hs) hl)
end
/-- The names, in the keys' order. -/
def namesE (L : List S38) : List (List UInt8) := L.map fun s => s.f0.data.toList
theorem strKeys_mapE (L : List S38) : strKeys (mapE L) = namesE L := by
  unfold mapE namesE strKeys
  simp only [List.map_map]
  rfl
theorem namesE_sorted {L : List S38} (h : Asc L) : (namesE L).mergeSort leB = namesE L := by
  refine List.mergeSort_of_pairwise ?_
  unfold namesE
  rw [List.pairwise_map]
  exact h.imp fun h => by simp only [leB, decide_eq_true_eq]; exact List.le_of_lt (before_lt h)
theorem sortedE_calls (L : List S38) (hA : Asc L) (b n : Nat) (w : World) (h : w.ownsMap Tryd.prog 9 R9 b n (mapE L)) (hn : n ≤ 2097152) (g : Nat) (hg : w.heap.size = g) :
    Calls Tryd.prog 26 #[.func (.func 47) #[] #[.pointer (some ⟨g, 0, none⟩)]] (w.alloc (.cells #[.map (some b)] 45)) fun e w' => ∃ v, e = .returned v ∧ NamesAt w' g v (namesE L) ∧ Below (w.heap.size + 1) (w.alloc (.cells #[.map (some b)] 45)) w' := by
  subst hg
  have hs := h.size_le
  refine ((callsIn_wide (n := 5)).1 (Tryd.slices_Sorted_keys_26_27 b n _ R9 w h (by unfold maxLen; omega) (by omega))).mono ?_
  rintro e w' ⟨v, ss, rfl, hS, hrow, _, hb⟩
  rw [strKeys_mapE] at hS
  have e1 : ss.mergeSort (fun x y => decide (x ≤ y)) = namesE L := (mergeSort_of_perm hS).trans (namesE_sorted hA)
  rw [e1, hS.length_eq] at hrow
  have e2 : (w.alloc (.cells #[.map (some b)] 45)).heap.size = w.heap.size + 1 := by simp
  rw [e2] at hrow hb
  exact ⟨v, rfl, namesAt_of hrow (by omega), hb⟩
/-- A row of another type is written: the names lie as they lay. -/
theorem namesAt_over {w w' : World} {B : Nat} {v u : Value} {K : List (List UInt8)} {base : Nat} {ok : Nat → Prop} {xs : List S38} (h : NamesAt w B v K) (hu : Kd.R k38 38 w base ok u xs) (hG : w.grownBy w' u.ownBlock) : NamesAt w' B v K := by
  obtain ⟨A, cap, hv, h⟩ := h
  refine ⟨A, cap, hv, fun i hi => ?_⟩
  obtain ⟨g, cur, e, hB, hc, hi2⟩ := h i hi
  exact ⟨g, cur, e, hB, blk_grown hc hG (Kd.R_ne hu hc (by decide)), hi2⟩
theorem getS_at {L : List S38} (h : Asc L) (i : Nat) (hi : i < L.length) : getS L L[i].f0 = (L[i].f1, true) := by
  unfold getS
  have : L.find? (fun s => decide (s.f0 = L[i].f0)) = some L[i] := by
    rw [List.find?_eq_some_iff_getElem]
    refine ⟨by simp, i, hi, rfl, fun j hj => ?_⟩
    have hb := List.pairwise_iff_getElem.mp h j i (by omega) hi hj
    have hne : L[j].f0 ≠ L[i].f0 := fun e => by rw [e] at hb; exact List.lt_irrefl _ (before_lt hb)
    simp [hne]
  rw [this]
set_option maxHeartbeats 4000000 in
set_option maxRecDepth 100000 in
theorem settingsOf_calls (L : List S38) (hA : Asc L) (hl : L.length ≤ 1048576) (hsm : ∀ x ∈ L, x.f0.size ≤ maxLen ∧ x.f1.size ≤ maxLen) (b n : Nat) (w : World) (h : w.ownsMap Tryd.prog 9 R9 b n (mapE L)) (hn : n ≤ 2097152) :
    Calls Tryd.prog 38 #[.map (some b)] w fun e w' => ∃ v, e = .returned v ∧ Kd.R k38 38 w' w.heap.size (fun _ => True) v L ∧ Below w.heap.size w w' := by
  have hu38 := Tryd.underlying38
  have hlt := h.lt
  have HO := Aside0.mk h
  have HA := Aside0.mk hA
  have HSM := Aside0.mk hsm
  have hlen : (namesE L).length = L.length := by simp [namesE]
  clear h hA hsm
  go_enter Tryd.func38, Tryd.ntmps38
  go_wp2_with (first
    | (go_at_call 27; (with_reducible refine (keys_calls _ _).mono ?_); rintro e w1 ⟨rfl, rfl⟩)
    | (go_at_call 26; (with_reducible refine (sortedE_calls L HA.out _ _ w HO.out hn w.heap.size rfl).mono ?_); rintro e w2 ⟨v2, rfl, hN, hb2⟩; obtain ⟨An, capn, ev, hN2⟩ := id hN; subst ev; clear hN2))
  have hs1 : (w.alloc (.cells #[.map (some b)] 45)).heap.size = w.heap.size + 1 := by simp
  have HB : Below w.heap.size w w2 := ((Below.refl _ w).alloc (Nat.le_refl _) _).trans (hb2.mono (by omega))
  have ho2 : w2.ownsMap Tryd.prog 9 R9 b n (mapE L) := owns_at HO.out HB hlt
  have HN := Aside0.mk hN
  have HB2 := Aside0.mk HB
  have HM := Aside0.mk ho2
  have hR0 : Kd.R k38 38 w2 w.heap.size (fun _ => True) (.slice none 0 0) (L.take 0) := Kd.R_nil _ _ _ _ _
  clear hN HB ho2 hb2 HO hs1
  go_loopg [3, 10] L.length (fun gk v3 v10 wr => ∃ i : Nat, v10 = .int .i64 i ∧ i + gk = L.length ∧ Aside0 (Kd.R k38 38 wr w.heap.size (fun _ => True) v3 (L.take i)) ∧ Aside0 (NamesAt wr w.heap.size (.slice An (namesE L).length capn) (namesE L)) ∧ Aside0 (wr.ownsMap Tryd.prog 9 R9 b n (mapE L)) ∧ Aside0 (Below w.heap.size w wr))
  case atStart => exact ⟨0, rfl, by omega, ⟨hR0⟩, HN, HM, HB2⟩
  case round =>
    clear HN HB2 HM hR0
    obtain ⟨i, rfl, hi, HR, HN, HM, HB⟩ := hrel
    by_cases hlt2 : i < L.length
    · obtain ⟨g', rfl⟩ : ∃ g', gk = g' + 1 := ⟨gk - 1, by omega⟩
      obtain ⟨ad, cap, ev, hcell⟩ := names_cell HN.out i (by omega)
      injection ev with e1 e2 e3
      subst e1
      clear e2 e3 cap
      obtain ⟨X, hX⟩ : ∃ X, L[i] = X := ⟨_, rfl⟩
      have hXm : X ∈ L := by rw [← hX]; exact List.getElem_mem hlt2
      have hsz := HSM.out X hXm
      have hname : (⟨((namesE L).getD i []).toArray⟩ : ByteArray) = X.f0 := by
        rw [← hX]; simp [namesE, hlt2]
      rw [hname] at hcell
      have hget : getS L X.f0 = (X.f1, true) := by rw [← hX]; exact getS_at HA.out i hlt2
      have hat := (getS_spec L X.f0).1
      rw [hget] at hat
      have HAT := Aside0.mk hat
      have htake : L.take (i + 1) = L.take i ++ [X] := by rw [List.take_succ_eq_append_getElem hlt2, hX]
      obtain ⟨Y, hY⟩ : ∃ Y, L.take i = Y := ⟨_, rfl⟩
      have HT := Aside0.mk (htake.trans (by rw [hY]))
      have hYl : Y.length = i := by rw [← hY]; simp; omega
      rw [hY] at HR
      obtain ⟨Ao, co, eo⟩ := Kd.R_slice HR.out
      subst eo
      have hkey : keyOf Tryd.prog 9 (.string X.f0) = some (.string X.f0.data.toList) := keyOf_string_mk Tryd.underlying9 hsz.1
      have HYL := Aside0.mk hYl
      have p1 : (i < (namesE L).length) = True := eq_true (by omega)
      clear hX hXm hname hget hat htake hY hYl
      go_wp2_with (first
        | (at_lookup; refine wpList_lookup_own_str _ rfl _ _ 45 rfl 9 9 law9 Tryd.underlying45 Tryd.underlying9 (zero9 _) b n _ rfl HM.out _ _ rfl hkey ?_; intro s hs hss; rw [HAT.out] at hs; obtain rfl : X.f1 = s := bytes_inj (by injection hs with hs; injection hs); clear hs hss)
        | ((with_reducible refine gate_builtin (b := .append) (xs := #[.tmp 14, .tmp 20]) rfl ?_); at_builtin; refine Kd.R_append k38 w.heap.size rfl (.tmp 14) (.tmp 20) 25 38 (.agg #[(.string ⟨#[]⟩), (.string ⟨#[]⟩)]) 32 rfl Tryd.underlying25 info38 rfl (by decide) (by omega) (.slice Ao Y.length co) Y X [.string X.f0, .string X.f1] (fun _ => True) (fun _ => False) rfl rfl ?aP (fun _ hk => hk.elim) ?aF ?aO (Below.refl _ _) ?aS ?aL ?_; (case aP => exact k38_mkM _ _ _ X); (case aF => exact fun _ _ => trivial); (case aO => exact HR.out); (case aS => exact HB.out.size); (case aL => have := HYL.out; omega); intro v5 w5 hr5 hb5 hg5 hat5))
      have hm5 := HM.out.kept hg5 (fun e => by have h5 := Kd.R_base HR.out b e.symm; omega)
      go_roundg g'
      case measure => omega
      case rel => exact ⟨i + 1, by go_num, by omega, ⟨by rw [HT.out]; exact hr5⟩, ⟨namesAt_over HN.out HR.out hg5⟩, ⟨hm5⟩, ⟨HB.out.trans hb5⟩⟩
    · obtain rfl : i = L.length := by omega
      have p1 : (L.length < (namesE L).length) = False := eq_false (by omega)
      rw [List.take_length] at HR
      go_wp2
      go_ret
      exact ⟨_, rfl, HR.out, HB.out⟩
end Hand
end Go.Proofs.YtfepbnolgceadaaDoor.MFnExactConfigure
