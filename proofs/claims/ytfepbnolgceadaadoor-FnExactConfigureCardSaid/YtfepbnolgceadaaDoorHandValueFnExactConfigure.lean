/- impl.valueOk: what it answers, and that the code comes to it. -/
import Derived.Test.YtfepbnolgceadaaDoorHandWordFnExactConfigure
import Derived.Test.YtfepbnolgceadaaDoorShelfTFnExactConfigure
namespace Go.Proofs.YtfepbnolgceadaaDoor.Hand
open Go Go.RowKit Go.Shelf Go.Proofs.YtfepbnolgceadaaDoor.Mine Go.Proofs.YtfepbnolgceadaaDoorW.PrintWords Go.Proofs.YtfepbnolgceadaaDoorW.PrintLast Go.Proofs.YtfepbnolgceadaaDoorW.PrintMore
attribute [local go_sem] max2_int min2_int max_two min_two max_three min_three max_four min_four
set_option linter.unusedVariables false
set_option linter.unusedSimpArgs false
/-- A digit. -/
def digitB (b : UInt8) : Bool := decide (48 ≤ b.toNat ∧ b.toNat ≤ 57)
/-- A value: a word, or one to nine digits. -/
def valueB (s : ByteArray) : Bool := wordB s || (decide (1 ≤ s.size ∧ s.size ≤ 9) && s.data.toList.all digitB)
theorem dw_head (p : UInt8 → Bool) : ∀ (l : List UInt8) (h : UInt8) (t : List UInt8), List.dropWhile p l = h :: t → p h = false := by
  intro l
  induction l with
  | nil => intro h t e; cases e
  | cons a l ih =>
    intro h t e
    cases ha : p a
    · simp only [List.dropWhile_cons, ha, Bool.false_eq_true, if_false] at e
      injection e with e1 e2
      rw [← e1]; exact ha
    · simp only [List.dropWhile_cons, ha, if_true] at e
      exact ih h t e
theorem dw_nil (p : UInt8 → Bool) : ∀ (l : List UInt8), List.dropWhile p l = [] ↔ l.all p = true := by
  intro l
  induction l with
  | nil => simp
  | cons a l ih =>
    cases ha : p a
    · simp [List.dropWhile_cons, ha]
    · simp only [List.dropWhile_cons, ha, if_true, List.all_cons, Bool.true_and]
      exact ih
theorem all_rev (p : UInt8 → Bool) (l : List UInt8) : l.reverse.all p = l.all p := by
  rw [Bool.eq_iff_iff, List.all_eq_true, List.all_eq_true]; simp
theorem trim_nil (l cs : List UInt8) : Lib.trimS l cs = [] ↔ l.all (fun b => cs.contains b) = true := by
  unfold Lib.trimS Lib.trimLeftS Lib.trimRightS
  rw [dw_nil, all_rev]
  constructor
  · intro h
    cases hm : List.dropWhile (fun b => cs.contains b) l.reverse with
    | nil => rw [dw_nil, all_rev] at hm; exact hm
    | cons a t =>
      have h1 := dw_head _ _ _ _ hm
      rw [hm, List.all_cons, h1] at h
      simp at h
  · intro h
    rw [← all_rev, ← dw_nil] at h
    rw [h]; rfl
theorem digit_in (b : UInt8) : ([48, 49, 50, 51, 52, 53, 54, 55, 56, 57] : List UInt8).contains b = digitB b := by
  have key : ∀ n : Fin 256, ([48, 49, 50, 51, 52, 53, 54, 55, 56, 57] : List UInt8).contains (UInt8.ofNat n.val) = decide (48 ≤ n.val ∧ n.val ≤ 57) := by decide +kernel
  have h := key ⟨b.toNat, b.toNat_lt⟩
  simp only [UInt8.ofNat_toNat] at h
  rw [h]; rfl
theorem trim_digits (s : ByteArray) : Lib.trimS s.data.toList [48, 49, 50, 51, 52, 53, 54, 55, 56, 57] = [] ↔ s.data.toList.all digitB = true := by
  rw [trim_nil]
  have e : (fun b => ([48, 49, 50, 51, 52, 53, 54, 55, 56, 57] : List UInt8).contains b) = digitB := funext digit_in
  rw [e]
set_option maxHeartbeats 4000000 in
set_option maxRecDepth 100000 in
/-- impl.valueOk. -/
theorem value_calls (s : ByteArray) (w : World) (hs : s.size ≤ 140737488351232) (hT : Tabs w) :
    Calls Tryd.prog 37 #[.string s] w fun e w' => e = .returned (.bool (valueB s)) ∧ Below w.heap.size w w' := by
  have cW := word_calls s w hs hT
  unfold valueB
  cases hv : wordB s
  · rw [hv] at cW
    simp only [Bool.false_or]
    have cI := impl_in.calls (s.size : Int) 1 9 (decide (1 ≤ s.size ∧ s.size ≤ 9))
    have hI : impl_in.f (s.size : Int) 1 9 = some (decide (1 ≤ s.size ∧ s.size ≤ 9)) := by
      unfold impl_in.f
      by_cases h1 : 1 ≤ s.size
      · rw [if_pos (by omega)]; congr 1; simp only [decide_eq_decide]; omega
      · rw [if_neg (by omega), decide_eq_false (by omega)]
    cases hb : decide (1 ≤ s.size ∧ s.size ≤ 9)
    · rw [hb] at cI hI
      simp only [Bool.false_and]
      go_enter Tryd.func37, Tryd.ntmps37
      go_wp2_with (first | (go_at_call 36; refine cW.mono ?_; rintro e w1 ⟨rfl, hb1⟩) | (go_at_call 57; refine (cI _ hI).mono ?_; rintro e w3 ⟨rfl, ⟨nd, rfl⟩⟩))
      go_ret
      exact ⟨rfl, below_drewNv hb1 nd⟩
    · rw [hb] at cI hI
      simp only [Bool.true_and]
      have cT : ∀ w : World, Calls Tryd.prog 61 #[.string s, .string { data := #[48, 49, 50, 51, 52, 53, 54, 55, 56, 57] }] w fun e w' => e = .returned (.string ⟨(Lib.trimS s.data.toList [48, 49, 50, 51, 52, 53, 54, 55, 56, 57]).toArray⟩) ∧ Below w.heap.size w w' :=
        fun w => Tryd.strings_Trim s _ w (by omega) (by decide) (ascii_of_all (by decide))
      have hd := trim_digits s
      obtain ⟨T, hTr⟩ : ∃ T, Lib.trimS s.data.toList [48, 49, 50, 51, 52, 53, 54, 55, 56, 57] = T := ⟨_, rfl⟩
      rw [hTr] at hd
      simp only [hTr] at cT
      clear hTr
      cases hA : s.data.toList.all digitB
      · rw [hA] at hd
        have hne : T ≠ [] := fun h => by simpa using hd.1 h
        obtain ⟨a, t, rfl⟩ : ∃ a t, T = a :: t := by cases T with
          | nil => exact absurd rfl hne
          | cons a t => exact ⟨a, t, rfl⟩
        clear hd hne hA
        go_enter Tryd.func37, Tryd.ntmps37
        go_wp2_with (first | (go_at_call 36; refine cW.mono ?_; rintro e w1 ⟨rfl, hb1⟩) | (go_at_call 57; refine (cI _ hI).mono ?_; rintro e w3 ⟨rfl, ⟨nd, rfl⟩⟩) | (go_at_call 61; refine (cT _).mono ?_; rintro e w4 ⟨rfl, hb4⟩))
        go_ret
        exact ⟨rfl, (below_drewNv hb1 nd).trans (hb4.mono (below_drewNv hb1 nd).size)⟩
      · rw [hA] at hd
        obtain rfl : T = [] := hd.2 rfl
        clear hd hA
        go_enter Tryd.func37, Tryd.ntmps37
        go_wp2_with (first | (go_at_call 36; refine cW.mono ?_; rintro e w1 ⟨rfl, hb1⟩) | (go_at_call 57; refine (cI _ hI).mono ?_; rintro e w3 ⟨rfl, ⟨nd, rfl⟩⟩) | (go_at_call 61; refine (cT _).mono ?_; rintro e w4 ⟨rfl, hb4⟩))
        go_ret
        exact ⟨rfl, (below_drewNv hb1 nd).trans (hb4.mono (below_drewNv hb1 nd).size)⟩
  · rw [hv] at cW
    simp only [Bool.true_or]
    go_enter Tryd.func37, Tryd.ntmps37
    go_wp2_with (first | (go_at_call 36; refine cW.mono ?_; rintro e w1 ⟨rfl, hb1⟩))
    go_ret
    exact ⟨rfl, hb1⟩
end Go.Proofs.YtfepbnolgceadaaDoor.Hand
