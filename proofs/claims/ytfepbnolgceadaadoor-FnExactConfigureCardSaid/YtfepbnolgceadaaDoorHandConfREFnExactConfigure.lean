/- Lines that are read one by one; the commands between two lists of settings. -/
import Derived.Test.YtfepbnolgceadaaDoorHandConfPEFnExactConfigure
import Derived.Lib.SplitLaws
import Derived.Lib.CountLaws
import Derived.Lib.IndexMore
import Derived.Lib.IndexLaws
namespace Go.Proofs.YtfepbnolgceadaaDoor.MFnExactConfigure
open Go Go.RowKit Go.Maps Go.WideMaps Go.Proofs.YtfepbnolgceadaaDoorW.PrintWords Go.Proofs.YtfepbnolgceadaaDoorW.PrintLast Go.Proofs.YtfepbnolgceadaaDoorW.PrintMore
set_option linter.unusedVariables false
set_option linter.unusedSimpArgs false
namespace Hand
/-! ### lines and pieces, as lists of bytes -/
def splitL : List UInt8 → List (List UInt8)
  | [] => [[]]
  | c :: r => if c = 32 then [] :: splitL r else match splitL r with
    | [] => [[c]]
    | h :: t => (c :: h) :: t
theorem index_cons (b c : UInt8) (l : List UInt8) : Lib.index (b :: l) [c] = if b = c then 0 else if Lib.index l [c] = -1 then -1 else Lib.index l [c] + 1 := by
  rw [Lib.index_one, Lib.index_one, Lib.indexByte]
  simp only [beq_iff_eq]
theorem splitK_splitL : ∀ s : List UInt8, Lib.splitK [32] 0 (Lib.count s [32]) s = splitL s
  | [] => by
    have : Lib.count [] [32] = 0 := by rw [Lib.count_one]; rfl
    rw [this]; rfl
  | c :: l => by
    have ih := splitK_splitL l
    by_cases hc : c = 32
    · subst hc
      rw [Lib.count_cons_eq, Nat.add_comm]
      unfold splitL
      rw [if_pos rfl, ← ih]
      have h0 : Lib.index (32 :: l) [32] = 0 := by rw [index_cons, if_pos rfl]
      conv => lhs; unfold Lib.splitK
      rw [h0]
      rfl
    · rw [Lib.count_cons_ne _ _ _ hc]
      unfold splitL
      rw [if_neg hc, ← ih]
      cases hn : Lib.count l [32] with
      | zero => rfl
      | succ n =>
        have hi : Lib.index l [32] ≠ -1 := fun e => by rw [Lib.count_miss e] at hn; cases hn
        have hg := Lib.index_ge l [32]
        obtain ⟨i, hi2⟩ : ∃ i : Nat, Lib.index l [32] = i := ⟨(Lib.index l [32]).toNat, by omega⟩
        unfold Lib.splitK
        rw [index_cons, if_neg hc, if_neg hi, hi2]
        rw [if_neg (by rw [beq_iff_eq]; omega), if_neg (by rw [beq_iff_eq]; omega)]
        rw [show ((i : Int) + 1).toNat = i + 1 by omega, show ((i : Int)).toNat = i by omega]
        rfl
theorem pieces_eq (s : ByteArray) : pieces s = (splitL s.data.toList).map (fun l => ⟨l.toArray⟩) := by
  have h := Lib.splitB_data sepB 0 (Lib.countB s sepB) s
  have h2 : Lib.splitK sepB.data.toList 0 (Lib.countB s sepB) s.data.toList = splitL s.data.toList := splitK_splitL _
  rw [h2] at h
  rw [← h, List.map_map]
  show pieces s = List.map _ (pieces s)
  conv => lhs; rw [← List.map_id (pieces s)]
  refine List.map_congr_left fun x _ => ?_
  exact bytes_inj (by simp)
theorem splitL_one : ∀ a : List UInt8, (32 : UInt8) ∉ a → splitL a = [a]
  | [], _ => rfl
  | c :: a, h => by
    unfold splitL
    rw [if_neg (fun e => h (by rw [e]; simp)), splitL_one a (fun hm => h (List.mem_cons_of_mem _ hm))]
theorem splitL_app : ∀ a b : List UInt8, (32 : UInt8) ∉ a → splitL (a ++ 32 :: b) = a :: splitL b
  | [], b, _ => by
    show splitL (32 :: b) = _
    conv => lhs; unfold splitL
    rw [if_pos rfl]
  | c :: a, b, h => by
    show splitL (c :: (a ++ 32 :: b)) = _
    conv => lhs; unfold splitL
    rw [if_neg (fun e => h (by rw [e]; simp)), splitL_app a b (fun hm => h (List.mem_cons_of_mem _ hm))]
theorem index_line : ∀ (c rest : List UInt8), (10 : UInt8) ∉ c → Lib.index (c ++ 10 :: rest) [10] = c.length
  | [], rest, _ => by
    show Lib.index (10 :: rest) [10] = _
    rw [index_cons]
    rfl
  | b :: c, rest, h => by
    show Lib.index (b :: (c ++ 10 :: rest)) [10] = _
    rw [index_cons, if_neg (fun e => h (by rw [e]; simp)), index_line c rest (fun hm => h (List.mem_cons_of_mem _ hm)), if_neg (by omega)]
    simp
theorem index_no : ∀ (c : List UInt8), (10 : UInt8) ∉ c → Lib.index c [10] = -1
  | [], _ => rfl
  | b :: c, h => by
    rw [index_cons, if_neg (fun e => h (by rw [e]; simp)), index_no c (fun hm => h (List.mem_cons_of_mem _ hm)), if_pos rfl]
theorem cut_line (c rest : List UInt8) (h : (10 : UInt8) ∉ c) : Lib.cut (c ++ 10 :: rest) [10] = (c, rest, true) := by
  unfold Lib.cut
  rw [index_line c rest h, if_pos (by omega)]
  simp
theorem cut_no (c : List UInt8) (h : (10 : UInt8) ∉ c) : Lib.cut c [10] = (c, [], false) := by
  unfold Lib.cut
  rw [index_no c h, if_neg (by omega)]
section
variable (wordB valueB : ByteArray → Bool)
theorem conf_line (f : Nat) (L : List S38) (K : List (List S38)) (c rest : List UInt8) (n : Nat) (h : (10 : UInt8) ∉ c) :
    confI wordB valueB (f + 1) L K ⟨(c ++ 10 :: rest).toArray⟩ n = match doI wordB valueB L K ⟨c.toArray⟩ with
      | some s => confI wordB valueB f s.1 s.2 ⟨rest.toArray⟩ (n + 1)
      | none => (none, n) := by
  conv => lhs; unfold confI
  simp only [cut_line c rest h, if_true]
  rfl
theorem conf_rest (f : Nat) (L : List S38) (K : List (List S38)) (c : List UInt8) (n : Nat) (h : (10 : UInt8) ∉ c) :
    confI wordB valueB (f + 1) L K ⟨c.toArray⟩ n = if (⟨c.toArray⟩ : ByteArray) ≠ ⟨#[]⟩ ∨ 0 < K.length then (none, n) else (some L, 0) := by
  conv => lhs; unfold confI
  simp only [cut_no c h, Bool.false_eq_true, if_false]
theorem conf_nil (f : Nat) (L : List S38) (n : Nat) : confI wordB valueB (f + 1) L [] ⟨#[]⟩ n = (some L, 0) := by
  have := conf_rest wordB valueB f L [] [] n (by simp)
  rw [this, if_neg (by simp)]
variable {wordB valueB}
def setL (n v : List UInt8) : List UInt8 := [115, 101, 116, 32] ++ n ++ [32] ++ v
def unsetL (n : List UInt8) : List UInt8 := [117, 110, 115, 101, 116, 32] ++ n
theorem pieces_set (n v : List UInt8) (hn : (32 : UInt8) ∉ n) (hv : (32 : UInt8) ∉ v) : pieces ⟨(setL n v).toArray⟩ = [tSet, ⟨n.toArray⟩, ⟨v.toArray⟩] := by
  rw [pieces_eq]
  have e : (⟨(setL n v).toArray⟩ : ByteArray).data.toList = [115, 101, 116] ++ 32 :: (n ++ 32 :: v) := by simp [setL]
  rw [e, splitL_app _ _ (by decide), splitL_app _ _ hn, splitL_one _ hv]
  rfl
theorem pieces_unset (n : List UInt8) (hn : (32 : UInt8) ∉ n) : pieces ⟨(unsetL n).toArray⟩ = [tUnset, ⟨n.toArray⟩] := by
  rw [pieces_eq]
  have e : (⟨(unsetL n).toArray⟩ : ByteArray).data.toList = [117, 110, 115, 101, 116] ++ 32 :: n := by simp [unsetL]
  rw [e, splitL_app _ _ (by decide), splitL_one _ hn]
  rfl
theorem doI_set (L : List S38) (K : List (List S38)) (n v : List UInt8) (hn : (32 : UInt8) ∉ n) (hv : (32 : UInt8) ∉ v) (hw : wordB ⟨n.toArray⟩ = true) (hx : valueB ⟨v.toArray⟩ = true) (hl : L.length < 40) :
    doI wordB valueB L K ⟨(setL n v).toArray⟩ = some (setS L ⟨⟨n.toArray⟩, ⟨v.toArray⟩⟩, K) := by
  unfold doI
  rw [pieces_set n v hn hv, if_pos ⟨rfl, rfl⟩]
  exact if_pos ⟨hw, hx, .inr hl⟩
theorem doI_unset (L : List S38) (K : List (List S38)) (n : List UInt8) (hn : (32 : UInt8) ∉ n) (hg : (getS L ⟨n.toArray⟩).2 = true) :
    doI wordB valueB L K ⟨(unsetL n).toArray⟩ = some (delS L ⟨n.toArray⟩, K) := by
  unfold doI
  rw [pieces_unset n hn, if_neg (fun h => absurd (show 2 = 3 from h.2) (by decide)), if_pos ⟨rfl, rfl⟩]
  exact if_pos hg
theorem doI_begin (L : List S38) (K : List (List S38)) (hk : K.length < 4) : doI wordB valueB L K ⟨#[98, 101, 103, 105, 110]⟩ = some (L, K ++ [L]) := by
  have hp : pieces ⟨#[98, 101, 103, 105, 110]⟩ = [⟨#[98, 101, 103, 105, 110]⟩] := by rw [pieces_eq]; rfl
  unfold doI
  rw [hp, if_neg (fun h => absurd h.2 (by decide)), if_neg (fun h => absurd h.2 (by decide)), if_pos rfl, if_pos hk]
theorem doI_commit (L M : List S38) (K : List (List S38)) : doI wordB valueB L (K ++ [M]) ⟨#[99, 111, 109, 109, 105, 116]⟩ = some (L, K) := by
  have hp : pieces ⟨#[99, 111, 109, 109, 105, 116]⟩ = [⟨#[99, 111, 109, 109, 105, 116]⟩] := by rw [pieces_eq]; rfl
  unfold doI
  rw [hp, if_neg (fun h => absurd h.2 (by decide)), if_neg (fun h => absurd h.2 (by decide)), if_neg (by decide), if_pos (.inl rfl), if_pos (by simp), if_neg (by decide), List.dropLast_concat]
theorem doI_abort (L M : List S38) (K : List (List S38)) : doI wordB valueB L (K ++ [M]) ⟨#[97, 98, 111, 114, 116]⟩ = some (M, K) := by
  have hp : pieces ⟨#[97, 98, 111, 114, 116]⟩ = [⟨#[97, 98, 111, 114, 116]⟩] := by rw [pieces_eq]; rfl
  unfold doI
  rw [hp, if_neg (fun h => absurd h.2 (by decide)), if_neg (fun h => absurd h.2 (by decide)), if_neg (by decide), if_pos (.inr rfl), if_pos (by simp), if_pos rfl, List.dropLast_concat, List.getLastD_concat]
/-! ### the commands between two lists -/
def keyL (s : S38) : List UInt8 := s.f0.data.toList
/-- The settings of these names. -/
def sel (a : List S38) (R : List (List UInt8)) : List S38 := R.filterMap fun n => a.find? fun s => decide (keyL s = n)
def Rise (a : List S38) : Prop := a.Pairwise fun x y => keyL x < keyL y
theorem sel_key {a : List S38} {R : List (List UInt8)} {s : S38} (h : s ∈ sel a R) : keyL s ∈ R ∧ s ∈ a := by
  obtain ⟨n, hn, hf⟩ := List.mem_filterMap.mp h
  have h1 := List.find?_some hf
  have h2 : keyL s = n := by simpa using h1
  exact ⟨by rw [h2]; exact hn, List.mem_of_find?_eq_some hf⟩
theorem sel_len (a : List S38) (R : List (List UInt8)) : (sel a R).length ≤ R.length := List.length_filterMap_le _ _
theorem sel_app (a : List S38) (D R : List (List UInt8)) : sel a (D ++ R) = sel a D ++ sel a R := List.filterMap_append
theorem sel_congr {a b : List S38} : ∀ {R : List (List UInt8)}, (∀ m ∈ R, a.find? (fun s => decide (keyL s = m)) = b.find? (fun s => decide (keyL s = m))) → sel a R = sel b R
  | [], _ => rfl
  | m :: R, h => by
    have ih := sel_congr (R := R) fun m hm => h m (List.mem_cons_of_mem _ hm)
    unfold sel at ih ⊢
    rw [List.filterMap_cons, List.filterMap_cons, h m (by simp), ih]
theorem sel_all : ∀ (N : List (List UInt8)) (a : List S38), N.Pairwise (· < ·) → Rise a → (∀ s ∈ a, keyL s ∈ N) → sel a N = a
  | [], a, _, _, hm => by
    cases a with
    | nil => rfl
    | cons s a => exact absurd (hm s (by simp)) (by simp)
  | n :: R, [], _, _, _ => by
    unfold sel
    rw [List.filterMap_eq_nil_iff]
    exact fun _ _ => rfl
  | n :: R, h :: t, hN, hA, hm => by
    obtain ⟨hn1, hn2⟩ := List.pairwise_cons.mp hN
    obtain ⟨ha1, ha2⟩ := List.pairwise_cons.mp hA
    by_cases e : keyL h = n
    · have e1 : sel (h :: t) (n :: R) = h :: sel (h :: t) R := by
        unfold sel
        rw [List.filterMap_cons, List.find?_cons, e]
        simp
      have e2 : sel (h :: t) R = sel t R := by
        refine sel_congr fun m hm2 => ?_
        rw [List.find?_cons, decide_eq_false (fun e2 => by rw [e] at e2; subst e2; exact List.lt_irrefl _ (hn1 n hm2))]
      rw [e1, e2, sel_all R t hn2 ha2 (fun s hs => ?_)]
      rcases List.mem_cons.mp (hm s (List.mem_cons_of_mem _ hs)) with h1 | h1
      · have := ha1 s hs
        rw [h1, e] at this
        exact absurd this (List.lt_irrefl _)
      · exact h1
    · have hR : keyL h ∈ R := (List.mem_cons.mp (hm h (by simp))).resolve_left e
      have hlt : ∀ s ∈ h :: t, n < keyL s := fun s hs => by
        rcases List.mem_cons.mp hs with rfl | hs
        · exact hn1 _ hR
        · exact List.lt_trans (hn1 _ hR) (ha1 s hs)
      have e1 : sel (h :: t) (n :: R) = sel (h :: t) R := by
        unfold sel
        have : (h :: t).find? (fun s => decide (keyL s = n)) = none := List.find?_eq_none.mpr fun s hs => by
          have := hlt s hs
          simp only [decide_eq_true_eq]
          intro e2
          rw [e2] at this
          exact List.lt_irrefl _ this
        rw [List.filterMap_cons, this]
      rw [e1]
      exact sel_all R (h :: t) hn2 hA fun s hs => (List.mem_cons.mp (hm s hs)).resolve_left fun e2 => by
        have := hlt s hs
        rw [e2] at this
        exact List.lt_irrefl _ this
theorem lt_before {a b : List UInt8} (h : a < b) : bytesBefore a b = true := by
  by_cases hb : bytesBefore a b = true
  · exact hb
  · have := before_lt (before_tri (Bool.eq_false_iff.mpr hb) (fun e => by rw [e] at h; exact List.lt_irrefl _ h))
    exact absurd h (List.lt_asymm this)
theorem insA_mid (x : S38) (Q : List S38) (hQ : ∀ s ∈ Q, keyL x < keyL s) : ∀ P : List S38, (∀ s ∈ P, keyL s < keyL x) → insA x (P ++ Q) = P ++ x :: Q
  | [], _ => by
    cases Q with
    | nil => rfl
    | cons q Q =>
      show insA x (q :: Q) = _
      unfold insA
      rw [if_pos (show bytesBefore x.f0.data.toList q.f0.data.toList = true from lt_before (hQ q (by simp)))]
      rfl
  | p :: P, h => by
    show insA x (p :: (P ++ Q)) = _
    unfold insA
    rw [if_neg (show ¬ bytesBefore x.f0.data.toList p.f0.data.toList = true from fun hb => List.lt_asymm (h p (by simp)) (before_lt hb)), insA_mid x Q hQ P (fun s hs => h s (List.mem_cons_of_mem _ hs))]
    rfl
theorem delS_ne (P : List S38) (n : ByteArray) (h : ∀ s ∈ P, s.f0 ≠ n) : delS P n = P := List.filter_eq_self.mpr fun s hs => by simpa using h s hs
theorem delS_app (P Q : List S38) (n : ByteArray) : delS (P ++ Q) n = delS P n ++ delS Q n := List.filter_append ..
theorem getS_app (P Q : List S38) (n : ByteArray) (h : ∀ s ∈ P, s.f0 ≠ n) : getS (P ++ Q) n = getS Q n := by
  unfold getS
  rw [List.find?_append]
  have : P.find? (fun s => decide (s.f0 = n)) = none := List.find?_eq_none.mpr fun s hs => by simpa using h s hs
  rw [this]
  rfl
theorem getS_find (a : List S38) (n : List UInt8) : getS a ⟨n.toArray⟩ = match a.find? (fun s => decide (keyL s = n)) with
    | some s => (s.f1, true)
    | none => (⟨#[]⟩, false) := by
  unfold getS
  have : (fun s : S38 => decide (s.f0 = ⟨n.toArray⟩)) = fun s => decide (keyL s = n) := by
    funext s
    by_cases h : keyL s = n
    · rw [decide_eq_true h, decide_eq_true]
      exact bytes_inj (by simpa [keyL] using h)
    · rw [decide_eq_false h, decide_eq_false]
      exact fun e => h (by rw [keyL, e])
  rw [this]
  rfl
theorem key_ne {s : S38} {n : List UInt8} (h : keyL s ≠ n) : s.f0 ≠ ⟨n.toArray⟩ := fun e => h (by rw [keyL, e])
/-- The command for one name. -/
def cmdL (a b : List S38) (n : List UInt8) : List UInt8 :=
  if (getS b ⟨n.toArray⟩).2 = true then (if (getS a ⟨n.toArray⟩).2 = true ∧ (getS a ⟨n.toArray⟩).1 = (getS b ⟨n.toArray⟩).1 then [] else setL n (getS b ⟨n.toArray⟩).1.data.toList ++ [10]) else unsetL n ++ [10]
/-- A text for which a name or a value may stand. -/
def Clean (l : List UInt8) : Prop := (32 : UInt8) ∉ l ∧ (10 : UInt8) ∉ l
theorem run_names (a b : List S38) (N : List (List UInt8)) (hN : N.Pairwise (· < ·)) (hl : N.length < 40) (hb : ∀ s ∈ b, wordB s.f0 = true ∧ valueB s.f1 = true ∧ Clean s.f0.data.toList ∧ Clean s.f1.data.toList) (ha : ∀ s ∈ a, Clean s.f0.data.toList)
    (hc : ∀ n ∈ N, (getS a ⟨n.toArray⟩).2 = true ∨ (getS b ⟨n.toArray⟩).2 = true) (K : List (List S38)) (tail : List UInt8) :
    ∀ (R D : List (List UInt8)), N = D ++ R → ∃ c, c ≤ (R.flatMap (cmdL a b)).length ∧ ∀ f n, confI wordB valueB (f + c) (sel b D ++ sel a R) K ⟨(R.flatMap (cmdL a b) ++ tail).toArray⟩ n = confI wordB valueB f (sel b N) K ⟨tail.toArray⟩ (n + c)
  | [], D, e => by
    rw [List.append_nil] at e
    subst e
    refine ⟨0, Nat.zero_le _, fun f n => ?_⟩
    show confI _ _ f (sel b N ++ []) K ⟨tail.toArray⟩ n = _
    rw [List.append_nil]
    rfl
  | m :: R, D, e => by
    obtain ⟨c, hcl, ih⟩ := run_names a b N hN hl hb ha hc K tail R (D ++ [m]) (by rw [e]; simp)
    rw [e] at hN
    obtain ⟨_, hmR, hDR⟩ := List.pairwise_append.mp hN
    have hR := (List.pairwise_cons.mp hmR).1
    have hD : ∀ d ∈ D, d < m := fun d hd => hDR d hd m (by simp)
    have nD : ∀ s ∈ sel b D, s.f0 ≠ ⟨m.toArray⟩ := fun s hs => key_ne fun e2 => by
      have := hD _ (sel_key hs).1
      rw [e2] at this
      exact List.lt_irrefl _ this
    have nR : ∀ s ∈ sel a R, s.f0 ≠ ⟨m.toArray⟩ := fun s hs => key_ne fun e2 => by
      have := hR _ (sel_key hs).1
      rw [e2] at this
      exact List.lt_irrefl _ this
    have eA : sel a (m :: R) = sel a [m] ++ sel a R := sel_app a [m] R
    have eB : sel b (D ++ [m]) = sel b D ++ sel b [m] := sel_app b D [m]
    have e1A : sel a [m] = (a.find? (fun s => decide (keyL s = m))).toList := by
      unfold sel
      cases h : a.find? (fun s => decide (keyL s = m)) <;> simp [h]
    have e1B : sel b [m] = (b.find? (fun s => decide (keyL s = m))).toList := by
      unfold sel
      cases h : b.find? (fun s => decide (keyL s = m)) <;> simp [h]
    have gA := getS_find a m
    have gB := getS_find b m
    have hcm := hc m (by rw [e]; simp)
    have nm : ∀ {x : List S38} {s : S38}, x.find? (fun s => decide (keyL s = m)) = some s → s ∈ x ∧ keyL s = m := fun h => ⟨List.mem_of_find?_eq_some h, by simpa using List.find?_some h⟩
    have sf : ∀ {s : S38}, keyL s = m → s.f0 = ⟨m.toArray⟩ := fun h => bytes_inj (by simpa [keyL] using h)
    have nA : delS (sel a [m]) ⟨m.toArray⟩ = [] := by
      rw [e1A]
      cases h : a.find? (fun s => decide (keyL s = m)) with
      | none => rfl
      | some s => simp [delS, sf (nm h).2]
    have eDel : delS (sel b D ++ sel a (m :: R)) ⟨m.toArray⟩ = sel b D ++ sel a R := by
      rw [eA, delS_app, delS_app, delS_ne _ _ nD, delS_ne _ _ nR, nA, List.nil_append]
    have hlen : (sel b D ++ sel a (m :: R)).length < 40 := by
      have h1 := sel_len b D
      have h2 := sel_len a (m :: R)
      rw [e, List.length_append] at hl
      rw [List.length_append]
      omega
    have fm : (m :: R).flatMap (cmdL a b) = cmdL a b m ++ R.flatMap (cmdL a b) := by simp
    cases hfB : b.find? (fun s => decide (keyL s = m)) with
    | none =>
      simp only [hfB] at gB
      have ecm : cmdL a b m = unsetL m ++ [10] := by unfold cmdL; rw [gB]; rfl
      cases hfA : a.find? (fun s => decide (keyL s = m)) with
      | none => simp only [hfA] at gA; rw [gA, gB] at hcm; simp at hcm
      | some s =>
        obtain ⟨hs1, hs2⟩ := nm hfA
        have cl := ha s hs1
        have cm : Clean m := by rw [← hs2]; exact cl
        have hget : (getS (sel b D ++ sel a (m :: R)) ⟨m.toArray⟩).2 = true := by
          rw [getS_app _ _ _ nD, eA, e1A, hfA]
          unfold getS
          simp [sf hs2]
        have hno : (10 : UInt8) ∉ unsetL m := by unfold unsetL; simp only [List.mem_append, not_or]; exact ⟨by decide, cm.2⟩
        refine ⟨c + 1, by rw [fm, ecm, List.length_append, List.length_append]; simp only [List.length_singleton]; omega, fun f n => ?_⟩
        rw [fm, ecm]
        have et : unsetL m ++ [10] ++ R.flatMap (cmdL a b) ++ tail = unsetL m ++ 10 :: (R.flatMap (cmdL a b) ++ tail) := by simp
        rw [et, ← Nat.add_assoc, conf_line wordB valueB _ _ _ _ _ _ hno, doI_unset _ _ _ cm.1 hget, eDel]
        have := ih f (n + 1)
        rw [eB, e1B, hfB] at this
        simp only [Option.toList_none, List.append_nil] at this
        rw [show n + (c + 1) = n + 1 + c by omega]
        exact this
    | some y =>
      obtain ⟨hy1, hy2⟩ := nm hfB
      obtain ⟨y1, y2, y3, y4⟩ := hb y hy1
      simp only [hfB] at gB
      have cm : Clean m := by rw [← hy2]; exact y3
      have ey : (⟨⟨m.toArray⟩, ⟨y.f1.data.toList.toArray⟩⟩ : S38) = y := by
        rw [← sf hy2]
      have eSet : setS (sel b D ++ sel a (m :: R)) y = sel b (D ++ [m]) ++ sel a R := by
        unfold setS
        rw [sf hy2, eDel, insA_mid y _ (fun s hs => by rw [hy2]; exact hR _ (sel_key hs).1) _ (fun s hs => by rw [hy2]; exact hD _ (sel_key hs).1), eB, e1B, hfB]
        simp
      by_cases hsame : (getS a ⟨m.toArray⟩).2 = true ∧ (getS a ⟨m.toArray⟩).1 = (getS b ⟨m.toArray⟩).1
      · have ecm : cmdL a b m = [] := by unfold cmdL; rw [if_pos (by rw [gB]), if_pos hsame]
        refine ⟨c, by rw [fm, ecm]; exact hcl, fun f n => ?_⟩
        rw [fm, ecm, List.nil_append, ← ih f n]
        congr 1
        rw [eA, eB, List.append_assoc]
        congr 2
        cases hfA : a.find? (fun s => decide (keyL s = m)) with
        | none => simp only [hfA] at gA; rw [gA] at hsame; simp at hsame
        | some x =>
          simp only [hfA] at gA
          rw [gA, gB] at hsame
          obtain ⟨_, hx2⟩ := nm hfA
          rw [e1A, e1B, hfA, hfB]
          have : x = y := by
            have h1 : x.f0 = y.f0 := by rw [sf hx2, sf hy2]
            have h2 : x.f1 = y.f1 := hsame.2
            cases x; cases y
            simp only at h1 h2
            rw [h1, h2]
          rw [this]
      · have ecm : cmdL a b m = setL m y.f1.data.toList ++ [10] := by unfold cmdL; rw [if_pos (by rw [gB]), if_neg hsame, gB]
        have hno : (10 : UInt8) ∉ setL m y.f1.data.toList := by
          unfold setL
          simp only [List.mem_append, not_or]
          exact ⟨⟨⟨by decide, cm.2⟩, by decide⟩, y4.2⟩
        refine ⟨c + 1, by rw [fm, ecm, List.length_append, List.length_append]; simp only [List.length_singleton]; omega, fun f n => ?_⟩
        rw [fm, ecm]
        have et : setL m y.f1.data.toList ++ [10] ++ R.flatMap (cmdL a b) ++ tail = setL m y.f1.data.toList ++ 10 :: (R.flatMap (cmdL a b) ++ tail) := by simp
        rw [et, ← Nat.add_assoc, conf_line wordB valueB _ _ _ _ _ _ hno, doI_set _ _ _ _ cm.1 y4.1 (by rw [← sf hy2]; exact y1) (by exact y2) hlen, ey, eSet]
        rw [show n + (c + 1) = n + 1 + c by omega]
        exact ih f (n + 1)
/-- All commands. -/
def diffL (a b : List S38) (N : List (List UInt8)) : List UInt8 := N.flatMap (cmdL a b)
structure Two (wordB valueB : ByteArray → Bool) (a b : List S38) (N : List (List UInt8)) : Prop where
  hN : N.Pairwise (· < ·)
  hl : N.length < 40
  hb : ∀ s ∈ b, wordB s.f0 = true ∧ valueB s.f1 = true ∧ Clean s.f0.data.toList ∧ Clean s.f1.data.toList
  ha : ∀ s ∈ a, Clean s.f0.data.toList
  hc : ∀ n ∈ N, (getS a ⟨n.toArray⟩).2 = true ∨ (getS b ⟨n.toArray⟩).2 = true
  ra : Rise a
  rb : Rise b
  ka : ∀ s ∈ a, keyL s ∈ N
  kb : ∀ s ∈ b, keyL s ∈ N
theorem run_all {a b : List S38} {N : List (List UInt8)} (h : Two wordB valueB a b N) (K : List (List S38)) (tail : List UInt8) :
    ∃ c, c ≤ (diffL a b N).length ∧ ∀ f n, confI wordB valueB (f + c) a K ⟨(diffL a b N ++ tail).toArray⟩ n = confI wordB valueB f b K ⟨tail.toArray⟩ (n + c) := by
  obtain ⟨c, h1, h2⟩ := run_names a b N h.hN h.hl h.hb h.ha h.hc K tail N [] rfl
  refine ⟨c, h1, fun f n => ?_⟩
  have := h2 f n
  rw [sel_all N a h.hN h.ra h.ka, sel_all N b h.hN h.rb h.kb] at this
  exact this
theorem run_plain {a b : List S38} {N : List (List UInt8)} (h : Two wordB valueB a b N) (f : Nat) (hf : (diffL a b N).length < f) : confI wordB valueB f a [] ⟨(diffL a b N).toArray⟩ 1 = (some b, 0) := by
  obtain ⟨c, h1, h2⟩ := run_all h [] []
  have := h2 (f - c - 1 + 1) 1
  rw [List.append_nil, show f - c - 1 + 1 + c = f by omega] at this
  rw [this]
  exact conf_nil wordB valueB _ _ _
theorem begin_line (f : Nat) (a : List S38) (t : List UInt8) : confI wordB valueB (f + 1) a [] ⟨([98, 101, 103, 105, 110, 10] ++ t).toArray⟩ 1 = confI wordB valueB f a [a] ⟨t.toArray⟩ 2 := by
  have := conf_line wordB valueB f a [] [98, 101, 103, 105, 110] t 1 (by decide)
  refine this.trans ?_
  rw [show (⟨[98, 101, 103, 105, 110].toArray⟩ : ByteArray) = ⟨#[98, 101, 103, 105, 110]⟩ from rfl, doI_begin a [] (by decide)]
  rfl
theorem run_commit {a b : List S38} {N : List (List UInt8)} (h : Two wordB valueB a b N) (f : Nat) (hf : (diffL a b N).length + 2 < f) :
    confI wordB valueB f a [] ⟨([98, 101, 103, 105, 110, 10] ++ diffL a b N ++ [99, 111, 109, 109, 105, 116, 10]).toArray⟩ 1 = (some b, 0) := by
  obtain ⟨c, h1, h2⟩ := run_all h [a] [99, 111, 109, 109, 105, 116, 10]
  obtain ⟨g, rfl⟩ : ∃ g, f = g + 1 + 1 + c + 1 := ⟨f - c - 3, by omega⟩
  rw [List.append_assoc, begin_line, h2]
  have := conf_line wordB valueB (g + 1) b [a] [99, 111, 109, 109, 105, 116] [] (2 + c) (by decide)
  refine this.trans ?_
  rw [show (⟨[99, 111, 109, 109, 105, 116].toArray⟩ : ByteArray) = ⟨#[99, 111, 109, 109, 105, 116]⟩ from rfl, show [a] = [] ++ [a] from rfl, doI_commit b a []]
  exact conf_nil wordB valueB _ _ _
theorem run_abort {a b : List S38} {N : List (List UInt8)} (h : Two wordB valueB a b N) (f : Nat) (hf : (diffL a b N).length + 2 < f) :
    confI wordB valueB f a [] ⟨([98, 101, 103, 105, 110, 10] ++ diffL a b N ++ [97, 98, 111, 114, 116, 10]).toArray⟩ 1 = (some a, 0) := by
  obtain ⟨c, h1, h2⟩ := run_all h [a] [97, 98, 111, 114, 116, 10]
  obtain ⟨g, rfl⟩ : ∃ g, f = g + 1 + 1 + c + 1 := ⟨f - c - 3, by omega⟩
  rw [List.append_assoc, begin_line, h2]
  have := conf_line wordB valueB (g + 1) b [a] [97, 98, 111, 114, 116] [] (2 + c) (by decide)
  refine this.trans ?_
  rw [show (⟨[97, 98, 111, 114, 116].toArray⟩ : ByteArray) = ⟨#[97, 98, 111, 114, 116]⟩ from rfl, show [a] = [] ++ [a] from rfl, doI_abort b a []]
  exact conf_nil wordB valueB _ _ _
end
end Hand
end Go.Proofs.YtfepbnolgceadaaDoor.MFnExactConfigure
