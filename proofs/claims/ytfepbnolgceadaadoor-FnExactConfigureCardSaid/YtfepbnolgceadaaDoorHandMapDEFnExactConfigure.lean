/- impl.mapOf: what they answer, and that the code comes to it. -/
import Derived.Test.YtfepbnolgceadaaDoorMFnExactConfigurex9
import Derived.Test.YtfepbnolgceadaaDoorHandWordFnExactConfigure
import Derived.Maps.Own
import Derived.Maps.OwnSet
import Derived.Maps.OwnOps
import Derived.Maps.Views
import Derived.Maps.StringElems
import Derived.StringKeys
namespace Go.Proofs.YtfepbnolgceadaaDoor.MFnExactConfigure
open Go.Proofs.YtfepbnolgceadaaDoor
open Go Go.RowKit Go.Maps Go.WideMaps Go.Proofs.YtfepbnolgceadaaDoor.Mine Go.Proofs.YtfepbnolgceadaaDoorW.PrintWords Go.Proofs.YtfepbnolgceadaaDoorW.PrintLast Go.Proofs.YtfepbnolgceadaaDoorW.PrintMore
attribute [local go_sem] max2_int min2_int max_two min_two max_three min_three max_four min_four
set_option linter.unusedVariables false
set_option linter.unusedSimpArgs false
namespace Hand
/-- The map of a list of settings. -/
def mapD (l : List S38) : DataW Unit := l.foldl (fun D s => D.put (.string s.f0.data.toList) (.lit (.string s.f1.data.toList))) (.map [])
theorem mapD_snoc (l : List S38) (x : S38) : mapD (l ++ [x]) = (mapD l).put (.string x.f0.data.toList) (.lit (.string x.f1.data.toList)) := by
  unfold mapD; rw [List.foldl_append]; rfl
theorem law9 : Keyed Tryd.prog 9 := string_keyed Tryd.underlying9
theorem zero9 (w : World) : (zeroValue 9).run Tryd.prog w = .ok (.string ⟨#[]⟩) w := by kernel_rfl
theorem rd38_take (l : List S38) (i : Nat) (h : i < l.length) : l.take (i + 1) = l.take i ++ [rd_T38 l (i : Int)] := by
  have e : rd_T38 l (i : Int) = l[i] := by simp [rd_T38, h]
  rw [e, List.take_succ_eq_append_getElem h]
set_option maxHeartbeats 4000000 in
set_option maxRecDepth 100000 in
theorem mapOf_calls (A0 : Option Addr) (c0 : Nat) (l0 : List S38) (w : World) (hr0 : Kd.C k38 w A0 l0.length l0) (hlen : l0.length ≤ 1048576) (hsm : ∀ x ∈ l0, x.f0.size ≤ maxLen ∧ x.f1.size ≤ maxLen) :
    Calls Tryd.prog 23 #[.slice A0 l0.length c0] w fun e w' => e = .returned (.map (some w.heap.size)) ∧ w'.ownsMap Tryd.prog 9 (plainElem (H := Unit) Tryd.prog 9) w.heap.size l0.length (mapD l0) ∧ Below w.heap.size w w' := by
  have hmm := @run_makeMap Tryd.prog
  have hu47 := Tryd.underlying38
  have HR0 := Aside0.mk hr0
  have HSM := Aside0.mk hsm
  clear hr0 hsm
  go_enter Tryd.func23, Tryd.ntmps23
  go_wp2
  go_loopg [9] l0.length (fun gf v9 wr => ∃ i : Nat, v9 = .int .i64 i ∧ i + gf = l0.length ∧ wr.ownsMap Tryd.prog 9 (plainElem (H := Unit) Tryd.prog 9) w.heap.size i (mapD (l0.take i)) ∧ Aside0 (Below w.heap.size w wr))
  case atStart => exact ⟨0, rfl, by omega, World.ownsMap_made _ _ _ _, ⟨(Below.refl _ _).alloc (Nat.le_refl _) _⟩⟩
  case round =>
    obtain ⟨i, rfl, hi, hown, HB⟩ := hrel
    by_cases hlt : i < l0.length
    · obtain ⟨g', rfl⟩ : ∃ g', gk = g' + 1 := ⟨gk - 1, by omega⟩
      obtain ⟨ad, e0, hx0, hx1⟩ := at_T38 HR0.out (i : Int) (by omega) (by omega)
      have hsz := HSM.out (rd_T38 l0 (i : Int)) (by simp [rd_T38, hlt])
      have HT := Aside0.mk (rd38_take l0 i hlt)
      obtain ⟨X, hX⟩ : ∃ X, rd_T38 l0 (i : Int) = X := ⟨_, rfl⟩
      rw [hX] at hx0 hx1 hsz HT
      rw [Int.toNat_natCast] at hx0 hx1
      clear hX
      subst e0
      replace hx0 := (HB.out.cell (World.block_lt_of_cell? w _ hx0)).trans hx0
      replace hx1 := (HB.out.cell (World.block_lt_of_cell? w _ hx1)).trans hx1
      have hkey : keyOf Tryd.prog 9 (.string X.f0) = some (.string X.f0.data.toList) := keyOf_string_mk Tryd.underlying9 hsz.1
      have hval := plainElem_string (H := Unit) Tryd.underlying9 hsz.2
      go_wp2_with (first | (at_mapUpdate; refine wpList_mapUpdate_own _ rfl _ _ _ 45 rfl 9 9 law9 Tryd.underlying45 _ w.heap.size i _ rfl (hown.alloc _) (by unfold maxLen; omega) _ _ _ rfl rfl hkey _ [] hval ?_; intro w1 hown1 hgrow1))
      have hst := Aside0.mk (mapD_snoc (l0.take i) X)
      have hB2 := ((HB.out.alloc (by exact HB.out.size) _).grown hgrow1 (by have := HB.out.size; simp; omega) (fun j hj => by cases hj; exact Nat.le_refl _))
      go_roundg g'
      case measure => omega
      case rel => exact ⟨i + 1, by go_num, by omega, by rw [HT.out, hst.out]; exact hown1, ⟨hB2⟩⟩
    · obtain rfl : i = l0.length := by omega
      go_wp2
      go_ret
      rw [List.take_length] at hown
      exact ⟨rfl, hown, HB.out⟩
/-- What the map says of a name. -/
def look (l : List S38) (n : ByteArray) : ByteArray × Bool :=
  match l.reverse.find? (fun s => decide (s.f0 = n)) with
  | some s => (s.f1, true)
  | none => (⟨#[]⟩, false)
theorem isMap_mapD (l : List S38) : IsMap (mapD l) := by
  unfold mapD
  suffices h : ∀ (D : DataW Unit), IsMap D → IsMap (l.foldl (fun D s => D.put (.string s.f0.data.toList) (.lit (.string s.f1.data.toList))) D) from h _ isMap_empty
  induction l with
  | nil => exact fun D h => h
  | cons a l ih => exact fun D h => ih _ (h.put _ _)
theorem bytes_ext {a b : ByteArray} (h : a.data.toList = b.data.toList) : a = b := by
  cases a; cases b
  simp only [ByteArray.mk.injEq]
  exact Array.ext' h
theorem look_snoc (l : List S38) (x : S38) (n : ByteArray) : look (l ++ [x]) n = if decide (x.f0 = n) = true then (x.f1, true) else look l n := by
  unfold look
  rw [List.reverse_append]
  simp only [List.reverse_cons, List.reverse_nil, List.nil_append, List.singleton_append, List.find?_cons]
  cases h : decide (x.f0 = n)
  · simp
  · simp
theorem look_spec (n : ByteArray) : ∀ (l : List S38), (mapD l).atKey (.string n.data.toList) (.lit (.string [])) = .lit (.string (look l n).1.data.toList) ∧ Maps.has (mapD l) (.string n.data.toList) = (look l n).2 := by
  suffices h : ∀ m : List S38, (mapD m.reverse).atKey (.string n.data.toList) (.lit (.string [])) = .lit (.string (look m.reverse n).1.data.toList) ∧ Maps.has (mapD m.reverse) (.string n.data.toList) = (look m.reverse n).2 from fun l => by simpa using h l.reverse
  intro m
  induction m with
  | nil => exact ⟨rfl, rfl⟩
  | cons x m ih =>
    rw [List.reverse_cons]
    obtain ⟨l, hl⟩ : ∃ l, m.reverse = l := ⟨_, rfl⟩
    rw [hl] at ih ⊢
    rw [mapD_snoc, look_snoc]
    cases h : decide (x.f0 = n)
    · have hne : x.f0 ≠ n := by simpa using h
      have hk : (Lit.string n.data.toList) ≠ Lit.string x.f0.data.toList := fun e => hne (bytes_ext (by injection e with e; exact e.symm))
      rw [atKey_put_other hk, has_put_other hk]
      simpa using ih
    · obtain rfl : x.f0 = n := by simpa using h
      rw [atKey_put_same (isMap_mapD l) (by simp [WideAt.IsKeyLit]), has_put_same (isMap_mapD l) (by simp [WideAt.IsKeyLit])]
      simp
end Hand
end Go.Proofs.YtfepbnolgceadaaDoor.MFnExactConfigure
