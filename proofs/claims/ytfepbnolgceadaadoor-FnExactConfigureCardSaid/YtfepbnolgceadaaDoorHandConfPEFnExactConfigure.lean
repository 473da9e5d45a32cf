/- The settings' map as a list in the keys' order, and what the program's Configure answers, as plain functions. -/
import Derived.Test.YtfepbnolgceadaaDoorMFnExactConfigurex0
import Derived.Maps.Own
import Derived.Maps.OwnSet
import Derived.Maps.Views
import Derived.Maps.Ext
import Derived.Lib.Split
namespace Go.Proofs.YtfepbnolgceadaaDoor.MFnExactConfigure
open Go Go.RowKit Go.Maps Go.WideMaps Go.Proofs.YtfepbnolgceadaaDoorW.PrintWords Go.Proofs.YtfepbnolgceadaaDoorW.PrintLast Go.Proofs.YtfepbnolgceadaaDoorW.PrintMore
set_option linter.unusedVariables false
set_option linter.unusedSimpArgs false
namespace Hand
/-- A setting as an entry of the map. -/
def ent (s : S38) : Lit × DataW Unit := (.string s.f0.data.toList, .lit (.string s.f1.data.toList))
/-- The map that reads as a list of settings (in the keys' order). -/
def mapE (L : List S38) : DataW Unit := .map (L.map ent)
def insA (x : S38) : List S38 → List S38
  | [] => [x]
  | y :: r => if bytesBefore x.f0.data.toList y.f0.data.toList = true then x :: y :: r else y :: insA x r
def delS (L : List S38) (n : ByteArray) : List S38 := L.filter fun s => !decide (s.f0 = n)
def setS (L : List S38) (x : S38) : List S38 := insA x (delS L x.f0)
def getS (L : List S38) (n : ByteArray) : ByteArray × Bool :=
  match L.find? (fun s => decide (s.f0 = n)) with
  | some s => (s.f1, true)
  | none => (⟨#[]⟩, false)
theorem bytes_inj {a b : ByteArray} (h : a.data.toList = b.data.toList) : a = b := by
  cases a; cases b
  simp only [ByteArray.mk.injEq]
  exact Array.ext' h
theorem same_ent (s : S38) (n : ByteArray) : (ent s).1.sameKey (.string n.data.toList) = decide (s.f0 = n) := by
  unfold ent
  by_cases h : s.f0 = n
  · rw [decide_eq_true h, h]
    exact WideAt.sameKey_self (by simp [WideAt.IsKeyLit])
  · rw [decide_eq_false h]
    exact Maps.sameKey_ne fun e => h (bytes_inj (by injection e))
theorem mapE_del (L : List S38) (n : ByteArray) : (mapE L).del (.string n.data.toList) = mapE (delS L n) := by
  unfold mapE delS
  show DataW.map _ = _
  congr 1
  induction L with
  | nil => rfl
  | cons s L ih =>
    simp only [List.map_cons, List.filter_cons, same_ent]
    cases h : decide (s.f0 = n)
    · simp [ih]
    · simp [ih]
theorem insert_ent (x : S38) : ∀ L : List S38, DataW.insert (ent x) (L.map ent) = (insA x L).map ent
  | [] => rfl
  | y :: r => by
    unfold insA
    simp only [List.map_cons, DataW.insert]
    show (if bytesBefore x.f0.data.toList y.f0.data.toList = true then _ else _) = _
    split
    · rfl
    · rw [insert_ent x r]; rfl
theorem mapE_put (L : List S38) (x : S38) : (mapE L).put (.string x.f0.data.toList) (.lit (.string x.f1.data.toList)) = mapE (setS L x) := by
  have h := mapE_del L x.f0
  unfold setS
  unfold mapE at h ⊢
  have h2 : (L.map ent).filter (fun p => !p.1.sameKey (.string x.f0.data.toList)) = (delS L x.f0).map ent := by
    have : DataW.map ((L.map ent).filter (fun p => !p.1.sameKey (.string x.f0.data.toList))) = DataW.map ((delS L x.f0).map ent) := h
    injection this
  show DataW.map (DataW.insert (ent x) ((L.map ent).filter (fun p => !p.1.sameKey (.string x.f0.data.toList)))) = _
  rw [h2, insert_ent]
theorem mapE_size (L : List S38) : Maps.size (mapE L) = L.length := by simp [mapE, Maps.size]
theorem getS_spec (L : List S38) (n : ByteArray) : (mapE L).atKey (.string n.data.toList) (.lit (.string [])) = .lit (.string (getS L n).1.data.toList) ∧ Maps.has (mapE L) (.string n.data.toList) = (getS L n).2 := by
  have hf : (L.map ent).find? (fun p => p.1.sameKey (.string n.data.toList)) = (L.find? (fun s => decide (s.f0 = n))).map ent := by
    rw [List.find?_map]
    congr 2
    funext s
    exact same_ent s n
  constructor
  · unfold mapE DataW.atKey
    simp only [hf]
    unfold getS
    cases L.find? (fun s => decide (s.f0 = n)) <;> rfl
  · show (L.map ent).any (fun p => p.1.sameKey (.string n.data.toList)) = _
    have : (L.map ent).any (fun p => p.1.sameKey (.string n.data.toList)) = ((L.map ent).find? (fun p => p.1.sameKey (.string n.data.toList))).isSome := by
      rw [Bool.eq_iff_iff, List.any_eq_true, List.find?_isSome]
    rw [this, hf]
    unfold getS
    cases L.find? (fun s => decide (s.f0 = n)) <;> rfl
/-- The list stands in the keys' order. -/
def Asc (L : List S38) : Prop := L.Pairwise fun a b => bytesBefore a.f0.data.toList b.f0.data.toList = true
theorem Asc.del {L : List S38} (h : Asc L) (n : ByteArray) : Asc (delS L n) := List.Pairwise.filter _ h
theorem before_trans : ∀ {a b c : List UInt8}, bytesBefore a b = true → bytesBefore b c = true → bytesBefore a c = true
  | [], _, [], _, h => by cases ‹List UInt8› <;> simp [bytesBefore] at h
  | [], _, _ :: _, _, _ => rfl
  | _ :: _, [], _, h, _ => by simp [bytesBefore] at h
  | _ :: _, _ :: _, [], _, h => by simp [bytesBefore] at h
  | x :: a, y :: b, z :: c, h1, h2 => by
    simp only [bytesBefore, Bool.or_eq_true, decide_eq_true_eq, Bool.and_eq_true, beq_iff_eq] at h1 h2 ⊢
    rcases h1 with h1 | ⟨rfl, h1⟩
    · rcases h2 with h2 | ⟨rfl, _⟩
      · exact .inl (UInt8.lt_trans h1 h2)
      · exact .inl h1
    · rcases h2 with h2 | ⟨rfl, h2⟩
      · exact .inl h2
      · exact .inr ⟨rfl, before_trans h1 h2⟩
theorem before_tri : ∀ {a b : List UInt8}, bytesBefore a b = false → a ≠ b → bytesBefore b a = true
  | [], [], _, h => absurd rfl h
  | [], _ :: _, h, _ => by simp [bytesBefore] at h
  | _ :: _, [], _, _ => rfl
  | x :: a, y :: b, h, hne => by
    simp only [bytesBefore, Bool.or_eq_false_iff, decide_eq_false_iff_not, Bool.and_eq_false_iff, beq_eq_false_iff_ne] at h
    simp only [bytesBefore, Bool.or_eq_true, decide_eq_true_eq, Bool.and_eq_true, beq_iff_eq]
    by_cases e : x = y
    · subst e
      refine .inr ⟨rfl, before_tri ?_ (fun e => hne (by rw [e]))⟩
      rcases h.2 with h | h
      · exact absurd rfl h
      · exact h
    · refine .inl ?_
      have := h.1
      rcases Nat.lt_trichotomy x.toNat y.toNat with hl | hl | hl
      · exact absurd hl this
      · exact absurd (UInt8.toNat_inj.mp hl) e
      · exact hl
theorem Asc.ins {L : List S38} (h : Asc L) (x : S38) (hx : ∀ s ∈ L, s.f0 ≠ x.f0) : Asc (insA x L) := by
  induction L with
  | nil => exact List.pairwise_singleton _ _
  | cons y r ih =>
    obtain ⟨h1, h2⟩ := List.pairwise_cons.mp h
    unfold insA
    split
    · rename_i hb
      refine List.pairwise_cons.mpr ⟨fun s hs => ?_, h⟩
      rcases List.mem_cons.mp hs with rfl | hs
      · exact hb
      · exact before_trans hb (h1 s hs)
    · rename_i hb
      refine List.pairwise_cons.mpr ⟨fun s hs => ?_, ih h2 (fun s hs => hx s (List.mem_cons_of_mem _ hs))⟩
      have hm : s = x ∨ s ∈ r := by
        clear h h1 h2 ih hx hb
        induction r with
        | nil => simp [insA] at hs; exact .inl hs
        | cons z r ih2 =>
          unfold insA at hs
          split at hs
          · simpa using hs
          · rcases List.mem_cons.mp hs with rfl | hs
            · exact .inr (by simp)
            · exact (ih2 hs).imp id (List.mem_cons_of_mem _)
      rcases hm with rfl | hm
      · exact before_tri (Bool.eq_false_iff.mpr hb) (fun e => hx y List.mem_cons_self (bytes_inj e.symm))
      · exact h1 s hm
theorem Asc.set {L : List S38} (h : Asc L) (x : S38) : Asc (setS L x) :=
  (h.del x.f0).ins x fun s hs => by
    have := (List.mem_filter.mp hs).2
    simpa using this
theorem insA_len (x : S38) : ∀ L : List S38, (insA x L).length = L.length + 1
  | [] => rfl
  | y :: r => by
    unfold insA
    split
    · rfl
    · simp [insA_len x r]
theorem setS_len (L : List S38) (x : S38) : (setS L x).length ≤ L.length + 1 := by
  unfold setS
  rw [insA_len]
  have := List.length_filter_le (fun s : S38 => !decide (s.f0 = x.f0)) L
  unfold delS
  omega
/-! #### what is told, line by line -/
def sepB : ByteArray := ⟨#[32]⟩
def pieces (s : ByteArray) : List ByteArray := Lib.splitB sepB 0 (Lib.countB s sepB) s
abbrev tSet : ByteArray := ⟨#[115, 101, 116]⟩
abbrev tUnset : ByteArray := ⟨#[117, 110, 115, 101, 116]⟩
abbrev tBegin : ByteArray := ⟨#[98, 101, 103, 105, 110]⟩
abbrev tCommit : ByteArray := ⟨#[99, 111, 109, 109, 105, 116]⟩
abbrev tAbort : ByteArray := ⟨#[97, 98, 111, 114, 116]⟩
abbrev tNeed : ByteArray := ⟨#[110, 101, 101, 100]⟩
/-- One line: the settings and those that are kept, the last ones last; none: it is not right. -/
def doI (wordB valueB : ByteArray → Bool) (L : List S38) (kept : List (List S38)) (line : ByteArray) : Option (List S38 × List (List S38)) :=
  if (pieces line).getD 0 ⟨#[]⟩ = tSet ∧ (pieces line).length = 3 then
    if wordB ((pieces line).getD 1 ⟨#[]⟩) = true ∧ valueB ((pieces line).getD 2 ⟨#[]⟩) = true ∧ ((getS L ((pieces line).getD 1 ⟨#[]⟩)).2 = true ∨ L.length < 40) then some (setS L ⟨(pieces line).getD 1 ⟨#[]⟩, (pieces line).getD 2 ⟨#[]⟩⟩, kept) else none
  else if (pieces line).getD 0 ⟨#[]⟩ = tUnset ∧ (pieces line).length = 2 then
    if (getS L ((pieces line).getD 1 ⟨#[]⟩)).2 = true then some (delS L ((pieces line).getD 1 ⟨#[]⟩), kept) else none
  else if line = tBegin then if kept.length < 4 then some (L, kept ++ [L]) else none
  else if line = tCommit ∨ line = tAbort then if 0 < kept.length then some (if line = tAbort then kept.getLastD [] else L, kept.dropLast) else none
  else if (pieces line).getD 0 ⟨#[]⟩ = tNeed ∧ (pieces line).length = 3 then
    if (getS L ((pieces line).getD 1 ⟨#[]⟩)).2 = true ∧ (getS L ((pieces line).getD 1 ⟨#[]⟩)).1 = (pieces line).getD 2 ⟨#[]⟩ then some (L, kept) else none
  else none
/-- All lines; none: what was given stays. -/
def confI (wordB valueB : ByteArray → Bool) : Nat → List S38 → List (List S38) → ByteArray → Nat → Option (List S38) × Nat
  | 0, _, _, _, n => (none, n)
  | f + 1, L, kept, text, n =>
    if (Lib.cut text.data.toList [10]).2.2 = true then
      match doI wordB valueB L kept ⟨(Lib.cut text.data.toList [10]).1.toArray⟩ with
      | some s => confI wordB valueB f s.1 s.2 ⟨(Lib.cut text.data.toList [10]).2.1.toArray⟩ (n + 1)
      | none => (none, n)
    else if text ≠ ⟨#[]⟩ ∨ 0 < kept.length then (none, n) else (some L, 0)
theorem before_lt : ∀ {a b : List UInt8}, bytesBefore a b = true → a < b
  | [], [], h => by simp [bytesBefore] at h
  | [], _ :: _, _ => List.nil_lt_cons _ _
  | _ :: _, [], h => by simp [bytesBefore] at h
  | x :: a, y :: b, h => by
    simp only [bytesBefore, Bool.or_eq_true, decide_eq_true_eq, Bool.and_eq_true, beq_iff_eq] at h
    rcases h with h | ⟨rfl, h⟩
    · exact List.Lex.rel h
    · exact List.Lex.cons (before_lt h)
end Hand
end Go.Proofs.YtfepbnolgceadaaDoor.MFnExactConfigure
