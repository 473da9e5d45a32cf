/- impl.mapOf and impl.Find19: what they answer, and that the code comes to it. -/
import Derived.Test.YtjenfcocegbmdaaDoorMFnExactFind19x8
import Derived.Test.YtjenfcocegbmdaaDoorHandWord
import Derived.Maps.Own
import Derived.Maps.OwnSet
import Derived.Maps.OwnOps
import Derived.Maps.Views
import Derived.Maps.StringElems
import Derived.StringKeys
namespace Go.Proofs.YtjenfcocegbmdaaDoor.MFnExactFind19
open Go.Proofs.YtjenfcocegbmdaaDoor
open Go Go.RowKit Go.Maps Go.WideMaps Go.Proofs.YtjenfcocegbmdaaDoor.Mine Go.Proofs.YtjenfcocegbmdaaDoorW.PrintWords Go.Proofs.YtjenfcocegbmdaaDoorW.PrintLast Go.Proofs.YtjenfcocegbmdaaDoorW.PrintMore
attribute [local go_sem] max2_int min2_int max_two min_two max_three min_three max_four min_four
set_option linter.unusedVariables false
set_option linter.unusedSimpArgs false
namespace Hand
/-- The map of a list of settings. -/
def mapD (l : List S47) : DataW Unit := l.foldl (fun D s => D.put (.string s.f0.data.toList) (.lit (.string s.f1.data.toList))) (.map [])
theorem mapD_snoc (l : List S47) (x : S47) : mapD (l ++ [x]) = (mapD l).put (.string x.f0.data.toList) (.lit (.string x.f1.data.toList)) := by
  unfold mapD; rw [List.foldl_append]; rfl
theorem law9 : Keyed Tryd.prog 9 := string_keyed Tryd.underlying9
theorem zero9 (w : World) : (zeroValue 9).run Tryd.prog w = .ok (.string ⟨#[]⟩) w := by kernel_rfl
theorem rd47_take (l : List S47) (i : Nat) (h : i < l.length) : l.take (i + 1) = l.take i ++ [rd_T47 l (i : Int)] := by
  have e : rd_T47 l (i : Int) = l[i] := by simp [rd_T47, h]
  rw [e, List.take_succ_eq_append_getElem h]
set_option maxHeartbeats 4000000 in
set_option maxRecDepth 100000 in
theorem mapOf_calls (A0 : Option Addr) (c0 : Nat) (l0 : List S47) (w : World) (hr0 : Kd.C k47 w A0 l0.length l0) (hlen : l0.length ≤ 1048576) (hsm : ∀ x ∈ l0, x.f0.size ≤ maxLen ∧ x.f1.size ≤ maxLen) :
    Calls Tryd.prog 40 #[.slice A0 l0.length c0] w fun e w' => e = .returned (.map (some w.heap.size)) ∧ w'.ownsMap Tryd.prog 9 (plainElem (H := Unit) Tryd.prog 9) w.heap.size l0.length (mapD l0) ∧ Below w.heap.size w w' := by
  have hmm := @run_makeMap Tryd.prog
  have hu47 := Tryd.underlying47
  have HR0 := Aside0.mk hr0
  have HSM := Aside0.mk hsm
  clear hr0 hsm
  go_enter Tryd.func40, Tryd.ntmps40
  go_wp2
  go_loopg [9] l0.length (fun gf v9 wr => ∃ i : Nat, v9 = .int .i64 i ∧ i + gf = l0.length ∧ wr.ownsMap Tryd.prog 9 (plainElem (H := Unit) Tryd.prog 9) w.heap.size i (mapD (l0.take i)) ∧ Aside0 (Below w.heap.size w wr))
  case atStart => exact ⟨0, rfl, by omega, World.ownsMap_made _ _ _ _, ⟨(Below.refl _ _).alloc (Nat.le_refl _) _⟩⟩
  case round =>
    obtain ⟨i, rfl, hi, hown, HB⟩ := hrel
    by_cases hlt : i < l0.length
    · obtain ⟨g', rfl⟩ : ∃ g', gk = g' + 1 := ⟨gk - 1, by omega⟩
      obtain ⟨ad, e0, hx0, hx1⟩ := at_T47 HR0.out (i : Int) (by omega) (by omega)
      have hsz := HSM.out (rd_T47 l0 (i : Int)) (by simp [rd_T47, hlt])
      have HT := Aside0.mk (rd47_take l0 i hlt)
      obtain ⟨X, hX⟩ : ∃ X, rd_T47 l0 (i : Int) = X := ⟨_, rfl⟩
      rw [hX] at hx0 hx1 hsz HT
      rw [Int.toNat_natCast] at hx0 hx1
      clear hX
      subst e0
      replace hx0 := (HB.out.cell (World.block_lt_of_cell? w _ hx0)).trans hx0
      replace hx1 := (HB.out.cell (World.block_lt_of_cell? w _ hx1)).trans hx1
      have hkey : keyOf Tryd.prog 9 (.string X.f0) = some (.string X.f0.data.toList) := keyOf_string_mk Tryd.underlying9 hsz.1
      have hval := plainElem_string (H := Unit) Tryd.underlying9 hsz.2
      go_wp2_with (first | (at_mapUpdate; refine wpList_mapUpdate_own _ rfl _ _ _ 58 rfl 9 9 law9 Tryd.underlying58 _ w.heap.size i _ rfl (hown.alloc _) (by unfold maxLen; omega) _ _ _ rfl rfl hkey _ [] hval ?_; intro w1 hown1 hgrow1))
      have hst := Aside0.mk (mapD_snoc (l0.take i) X)
      have hB2 := ((HB.out.alloc (by exact HB.out.size) _).grown hgrow1 (by have := HB.out.size; simp; omega) (fun j hj => by cases hj; exact Nat.le_refl _))
      go_roundg g'
      case measure => omega
      case rel => exact ⟨i + 1, by go_num, by omega, by rw [HT.out, hst.out]; exact hown1, ⟨hB2⟩⟩
    · obtain rfl : i = l0.length := by omega
      go_wp2
      go_ret
      rw [List.take_length] at hown
      exact ⟨rfl, hown, HB.out⟩
/-- What the map says of a name. -/
def look (l : List S47) (n : ByteArray) : ByteArray × Bool :=
  match l.reverse.find? (fun s => decide (s.f0 = n)) with
  | some s => (s.f1, true)
  | none => (⟨#[]⟩, false)
theorem isMap_mapD (l : List S47) : IsMap (mapD l) := by
  unfold mapD
  suffices h : ∀ (D : DataW Unit), IsMap D → IsMap (l.foldl (fun D s => D.put (.string s.f0.data.toList) (.lit (.string s.f1.data.toList))) D) from h _ isMap_empty
  induction l with
  | nil => exact fun D h => h
  | cons a l ih => exact fun D h => ih _ (h.put _ _)
theorem bytes_ext {a b : ByteArray} (h : a.data.toList = b.data.toList) : a = b := by
  cases a; cases b
  simp only [ByteArray.mk.injEq]
  exact Array.ext' h
theorem look_snoc (l : List S47) (x : S47) (n : ByteArray) : look (l ++ [x]) n = if decide (x.f0 = n) = true then (x.f1, true) else look l n := by
  unfold look
  rw [List.reverse_append]
  simp only [List.reverse_cons, List.reverse_nil, List.nil_append, List.singleton_append, List.find?_cons]
  cases h : decide (x.f0 = n)
  · simp
  · simp
theorem look_spec (n : ByteArray) : ∀ (l : List S47), (mapD l).atKey (.string n.data.toList) (.lit (.string [])) = .lit (.string (look l n).1.data.toList) ∧ Maps.has (mapD l) (.string n.data.toList) = (look l n).2 := by
  suffices h : ∀ m : List S47, (mapD m.reverse).atKey (.string n.data.toList) (.lit (.string [])) = .lit (.string (look m.reverse n).1.data.toList) ∧ Maps.has (mapD m.reverse) (.string n.data.toList) = (look m.reverse n).2 from fun l => by simpa using h l.reverse
  intro m
  induction m with
  | nil => exact ⟨rfl, rfl⟩
  | cons x m ih =>
    rw [List.reverse_cons]
    obtain ⟨l, hl⟩ : ∃ l, m.reverse = l := ⟨_, rfl⟩
    rw [hl] at ih ⊢
    rw [mapD_snoc, look_snoc]
    cases h : decide (x.f0 = n)
    · have hne : x.f0 ≠ n := by simpa using h
      have hk : (Lit.string n.data.toList) ≠ Lit.string x.f0.data.toList := fun e => hne (bytes_ext (by injection e with e; exact e.symm))
      rw [atKey_put_other hk, has_put_other hk]
      simpa using ih
    · obtain rfl : x.f0 = n := by simpa using h
      rw [atKey_put_same (isMap_mapD l) (by simp [WideAt.IsKeyLit]), has_put_same (isMap_mapD l) (by simp [WideAt.IsKeyLit])]
      simp
/-- What the contract asks: the model's bounds. -/
def FindOk (l : List S47) (n : ByteArray) : Prop := l.length ≤ 1048576 ∧ (∀ x ∈ l, x.f0.size ≤ maxLen ∧ x.f1.size ≤ maxLen) ∧ n.size ≤ maxLen
instance (l : List S47) (n : ByteArray) : Decidable (FindOk l n) := by unfold FindOk; exact inferInstance
set_option maxHeartbeats 4000000 in
set_option maxRecDepth 100000 in
theorem find_calls (k : Nat) (A0 : Option Addr) (c0 : Nat) (l0 : List S47) (a1 : ByteArray) (t : Bool) (w : World) (hT : Aside0 (Go.Proofs.YtjenfcocegbmdaaDoor.Hand.Tabs w)) (hr0 : Kd.C k47 w A0 l0.length l0) (hc0 : l0.length ≤ c0) (c : FindOk l0 a1) (h1 : impl_SettingsOk.f k l0 = some t)
    (r1 : ByteArray) (r2 : Bool) (h2 : (if t = true then some (look l0 a1) else some ((⟨#[]⟩ : ByteArray), false)) = some (r1, r2)) :
    Calls Tryd.prog 20 #[.slice A0 l0.length c0, .string a1] w fun e w' => e = .returned (.tuple #[.string r1, .bool r2]) ∧ Below w.heap.size w w' := by
  have cS := impl_SettingsOk.calls k A0 c0 l0 t w hT hr0 hc0 h1
  cases t
  · simp only [Bool.false_eq_true, if_false, Option.some.injEq, Prod.mk.injEq] at h2
    obtain ⟨rfl, rfl⟩ := h2
    clear hr0 hT c h1
    go_enter Tryd.func20, Tryd.ntmps20
    go_wp2_with (first | (go_at_call 13; refine cS.mono ?_; rintro e w1 ⟨rfl, hb1⟩))
    go_ret2
    exact ⟨rfl, hb1⟩
  · simp only [if_true, Option.some.injEq] at h2
    have cM : ∀ w1 : World, Below w.heap.size w w1 → Calls Tryd.prog 40 #[.slice A0 l0.length c0] w1 fun e w' => e = .returned (.map (some w1.heap.size)) ∧ w'.ownsMap Tryd.prog 9 (plainElem (H := Unit) Tryd.prog 9) w1.heap.size l0.length (mapD l0) ∧ Below w1.heap.size w1 w' :=
      fun w1 hb => mapOf_calls A0 c0 l0 w1 (Kd.C_below hr0 hb) c.1 c.2.1
    have CM := Aside0.mk cM
    have hkey : keyOf Tryd.prog 9 (.string a1) = some (.string a1.data.toList) := keyOf_string_mk Tryd.underlying9 c.2.2
    have LS := Aside0.mk (look_spec a1 l0)
    rw [h2] at LS
    have hz0 : plainElem (H := Unit) Tryd.prog 9 (.string ⟨#[]⟩) = some (.lit (.string []), []) := plainElem_string Tryd.underlying9 (by decide)
    clear hr0 hT c h1 cM h2
    go_enter Tryd.func20, Tryd.ntmps20
    go_wp2_with (first
      | (go_at_call 13; refine cS.mono ?_; rintro e w1 ⟨rfl, hb1⟩)
      | (go_at_call 40; refine (CM.out _ hb1).mono ?_; rintro e w2 ⟨rfl, hown, hb2⟩)
      | (at_lookup; refine wpList_lookup_own_ok _ rfl _ _ 58 rfl 9 9 law9 Tryd.underlying58 (plainElem (H := Unit) Tryd.prog 9) (zero9 _) _ [] hz0 _ _ _ rfl hown _ _ rfl hkey ?_; intro v ps hv; rw [LS.out.1] at hv; rw [LS.out.2]; obtain ⟨s, rfl, hz, hsz⟩ := plainElem_string_inv Tryd.underlying9 hv; obtain rfl : r1 = s := bytes_ext (by injection (congrArg Prod.fst hz) with e0; injection e0); clear hv hz))
    go_ret2
    exact ⟨rfl, hb1.trans (hb2.mono hb1.size)⟩
end Hand
end Go.Proofs.YtjenfcocegbmdaaDoor.MFnExactFind19
