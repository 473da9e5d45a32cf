/- impl.WordOk: what it answers, and that the code comes to it. -/
import Derived.Test.YtfepbnolgceadaaDoorHandRuneFnExactConfigure
import Derived.Test.YtfepbnolgceadaaDoorShelfVFnExactConfigure
import Derived.Test.YtfepbnolgceadaaDoorShelfCFnExactConfigure
import Derived.Lib.ValidLaws
import Derived.Lib.RuneCount
import Derived.Test.YtfepbnolgceadaaDoorKitFnExactConfigure
namespace Go.Proofs.YtfepbnolgceadaaDoor.Hand
open Go Go.RowKit Go.Proofs.YtfepbnolgceadaaDoor.Mine Go.Proofs.YtfepbnolgceadaaDoorW.PrintWords Go.Proofs.YtfepbnolgceadaaDoorW.PrintLast Go.Proofs.YtfepbnolgceadaaDoorW.PrintMore
attribute [local go_sem] max2_int min2_int max_two min_two max_three min_three max_four min_four
set_option linter.unusedVariables false
set_option linter.unusedSimpArgs false
/-- utf8's two tables lie as their text lays them, and bytealg's own variable holds some number. -/
def Tabs (w : World) : Prop := Lib.Utf8Tabs (Tryd.lays196_ren.g 3) (Tryd.lays196_ren.g 4) w ∧ ∃ m, w.cell? ⟨Tryd.lays145_ren.g 1, 0, none⟩ = some (.int .i64 m)
theorem tabs_below {w w' : World} (h : Tabs w) (hb : Below w.heap.size w w') : Tabs w' := ⟨Utf8Tabs_below h.1 hb, h.2.imp fun m hm => (hb.cell (World.block_lt_of_cell? w _ hm)).trans hm⟩
theorem tabs_at {w w' : World} (h : Aside0 (Tabs w)) (hb : Below w.heap.size w w') : Aside0 (Tabs w') := Aside0.mk (tabs_below h.out hb)
/-- The letters, as the text of both sides has them. -/
def letterB (x : Int) : Bool := decide (65 ≤ x ∧ x ≤ 90) || decide (97 ≤ x ∧ x ≤ 122) || decide (192 ≤ x ∧ x ≤ 591 ∧ x ≠ 215 ∧ x ≠ 247) || decide (913 ≤ x ∧ x ≤ 969 ∧ x ≠ 930) || decide (1040 ≤ x ∧ x ≤ 1103)
theorem letter_eq (x : Int) (h0 : 0 ≤ x) (h1 : x ≤ 1114111) : impl_letterOk.f x = some (letterB x) := by
  have hw : wrap64 x = x := w64 (by omega) (by omega)
  have inr : ∀ a b : Int, impl_in.f x a b = some (decide (a ≤ x ∧ x ≤ b)) := by
    intro a b
    unfold impl_in.f
    by_cases h : a ≤ x
    · rw [if_pos h]; congr 1; simp [h]
    · rw [if_neg h, decide_eq_false (fun h2 => h h2.1)]
  unfold impl_letterOk.f letterB
  simp only [hw, inr, Option.bind_some]
  by_cases a1 : 65 ≤ x ∧ x ≤ 90
  · simp [a1]
  by_cases a2 : 97 ≤ x ∧ x ≤ 122
  · simp [a1, a2]
  by_cases a3 : 192 ≤ x ∧ x ≤ 591
  · by_cases a4 : x = 215
    · subst a4; simp
    · by_cases a5 : x = 247
      · subst a5; simp
      · simp [a1, a2, a3, a4, a5]
  by_cases a6 : 913 ≤ x ∧ x ≤ 969
  · have a7 : ¬ (1040 ≤ x ∧ x ≤ 1103) := by omega
    have a8 : ¬ (192 ≤ x ∧ x ≤ 591 ∧ x ≠ 215 ∧ x ≠ 247) := fun h => a3 ⟨h.1, h.2.1⟩
    by_cases a9 : x = 930
    · subst a9; simp
    · simp [a1, a2, a3, a6, a7, a8, a9]
  · have a8 : ¬ (192 ≤ x ∧ x ≤ 591 ∧ x ≠ 215 ∧ x ≠ 247) := fun h => a3 ⟨h.1, h.2.1⟩
    have a9 : ¬ (913 ≤ x ∧ x ≤ 969 ∧ x ≠ 930) := fun h => a6 ⟨h.1, h.2.1⟩
    simp only [decide_eq_false a1, decide_eq_false a2, decide_eq_false a3, decide_eq_false a6, decide_eq_false a8, decide_eq_false a9, Bool.false_eq_true, if_false, Bool.false_or]
/-- The rune at a place may stand there. -/
def runeB (x : Int) (first : Bool) : Bool := letterB x || (!first && signB x)
/-- From a place on all runes may stand there. -/
def runesFrom (s : ByteArray) : Nat → Nat → Bool
  | 0, _ => true
  | f + 1, pos => if pos < s.size then runeB (Utf8.decode s pos).1 (pos == 0) && runesFrom s f (pos + (Utf8.decode s pos).2) else true
theorem runesFrom_end (s : ByteArray) (f pos : Nat) (h : ¬ pos < s.size) : runesFrom s f pos = true := by
  cases f <;> simp [runesFrom, h]
def wordB (s : ByteArray) : Bool := Lib.validD s.data.toList && decide (1 ≤ Lib.runeCount s ∧ Lib.runeCount s ≤ 16) && runesFrom s s.size 0
set_option maxHeartbeats 8000000 in
set_option maxRecDepth 100000 in
/-- impl.WordOk. -/
theorem word_calls (s : ByteArray) (w : World) (hs : s.size ≤ 140737488351232) (hT : Tabs w) :
    Calls Tryd.prog 36 #[.string s] w fun e w' => e = .returned (.bool (wordB s)) ∧ Below w.heap.size w w' := by
  have cV := Tryd.utf8_ValidString s w (by omega) hT.1
  have cR : ∀ w : World, Calls Tryd.prog 58 #[.string s] w fun e w' => e = .returned (.int .i64 (Lib.runeCount s)) ∧ Below w.heap.size w w' := fun w => (Tryd.utf8_RuneCountInString s w (by omega)).mono (by
    rintro e w' ⟨rfl, pos, rfl⟩
    exact ⟨rfl, (Below.refl _ _).alloc (Nat.le_refl _) _⟩)
  have hrc := Lib.runeCount_le s
  unfold wordB
  cases hv : Lib.validD s.data.toList
  · rw [hv] at cV
    clear cR
    simp only [Bool.false_and]
    go_enter Tryd.func36, Tryd.ntmps36
    go_wp2_with (first | (go_at_call 56; refine cV.mono ?_; rintro e w' ⟨rfl, hb⟩))
    go_ret
    exact ⟨rfl, hb⟩
  · rw [hv] at cV
    simp only [Bool.true_and]
    obtain ⟨n, hn⟩ : ∃ n, Lib.runeCount s = n := ⟨_, rfl⟩
    rw [hn] at hrc ⊢
    simp only [hn] at cR
    have cI := impl_in.calls (n : Int) 1 16 (decide (1 ≤ n ∧ n ≤ 16))
    have hI : impl_in.f (n : Int) 1 16 = some (decide (1 ≤ n ∧ n ≤ 16)) := by
      unfold impl_in.f
      by_cases h1 : 1 ≤ n
      · rw [if_pos (by omega)]; congr 1; simp only [decide_eq_decide]; omega
      · rw [if_neg (by omega), decide_eq_false (by omega)]
    cases hb : decide (1 ≤ n ∧ n ≤ 16)
    · rw [hb] at cI hI
      simp only [Bool.false_and]
      go_enter Tryd.func36, Tryd.ntmps36
      go_wp2_with (first | (go_at_call 56; refine cV.mono ?_; rintro e w1 ⟨rfl, hb1⟩) | (go_at_call 58; refine (cR _).mono ?_; rintro e w2 ⟨rfl, hb2⟩) | (go_at_call 57; refine (cI _ hI).mono ?_; rintro e w3 ⟨rfl, ⟨nd, rfl⟩⟩))
      go_ret
      exact ⟨rfl, below_drewNv (hb1.trans (hb2.mono hb1.size)) nd⟩
    · rw [hb] at cI hI
      simp only [Bool.true_and]
      obtain ⟨ANS, hANS⟩ : ∃ ANS, runesFrom s s.size 0 = ANS := ⟨_, rfl⟩
      rw [hANS]
      go_enter Tryd.func36, Tryd.ntmps36
      go_wp2_with (first | (go_at_call 56; refine cV.mono ?_; rintro e w1 ⟨rfl, hb1⟩) | (go_at_call 58; refine (cR _).mono ?_; rintro e w2 ⟨rfl, hb2⟩) | (go_at_call 57; refine (cI _ hI).mono ?_; rintro e w3 ⟨rfl, ⟨nd, rfl⟩⟩))
      have hb3 : Below w.heap.size w (w2.drewN nd) := below_drewNv (hb1.trans (hb2.mono hb1.size)) nd
      obtain ⟨w3, hw3⟩ : ∃ w3, w2.drewN nd = w3 := ⟨_, rfl⟩
      have hz := Aside0.mk (show w2.heap.size = w3.heap.size by rw [← hw3]; simp)
      rw [hw3] at hb3 ⊢
      clear cV cR cI hI hb1 hb2
      go_loopg [] s.size (fun gf wx => ∃ pos : Nat, wx.heap[w2.heap.size]? = some (.stringIter s pos) ∧ Below w2.heap.size w3 wx ∧ runesFrom s gf pos = ANS ∧ s.size ≤ pos + gf)
      case atStart => exact ⟨0, by rw [hz.out]; exact World.iter_heap w3 s 0, (Below.refl _ w3).alloc (Nat.le_of_eq hz.out) _, hANS, by omega⟩
      case round =>
        obtain ⟨pos, hit, hbw, hleft, hfu⟩ := hrel
        clear hANS
        by_cases hps : pos < s.size
        · obtain ⟨g', rfl⟩ : ∃ g', gk = g' + 1 := ⟨gk - 1, by omega⟩
          have hnx : ∀ ty, (Instr.next (.pointer (some ⟨w2.heap.size, 0, none⟩)) true ty).run Tryd.prog wr = _ := fun ty => Lib.run_next_any_at wr w2.heap.size s pos ty hit hps
          have hwd := Lib.width_pos s pos
          have hrl := Lib.rune_le s pos
          obtain ⟨R, hR⟩ : ∃ R, (Utf8.decode s pos).1 = R := ⟨_, rfl⟩
          obtain ⟨K, hK⟩ : ∃ K, (Utf8.decode s pos).2 = K := ⟨_, rfl⟩
          simp only [runesFrom, hps, if_true, hR, hK] at hleft
          rw [hR, hK] at hnx
          rw [hK] at hwd
          rw [hR] at hrl
          have hit2 := Lib.iterAt_heap wr w2.heap.size s pos (pos + K) hit
          have hbw2 := Lib.below_iterAt hbw (k := w2.heap.size) (Nat.le_refl _) s (pos + K)
          obtain ⟨W, hWd⟩ : ∃ W, wr.iterAt w2.heap.size s (pos + K) = W := ⟨_, rfl⟩
          rw [hWd] at hnx hit2 hbw2
          have hsz : w2.heap.size < W.heap.size := (Array.getElem?_eq_some_iff.1 hit2).1
          have cL := impl_letterOk.calls (R : Int) (letterB R)
          have eL := letter_eq (R : Int) (by omega) (by omega)
          have cS : ∀ w : World, Calls Tryd.prog 60 #[.string { data := #[48, 49, 50, 51, 52, 53, 54, 55, 56, 57, 45, 95, 46] }, .int .i32 (R : Int)] w fun e w' => e = .returned (.bool (signB R)) ∧ Below w.heap.size w w' := fun w => contains_sign (R : Int) w (by omega) (by omega)
          clear hWd hR hK
          simp only [runeB] at hleft
          cases hl : letterB (R : Int)
          · rw [hl] at cL eL hleft
            simp only [Bool.false_or] at hleft
            by_cases h0 : pos = 0
            · subst h0
              clear cS
              have e0 : (((0 : Nat) : Int) == 0) = true := rfl
              have hA : false = ANS := by rw [← hleft]; rfl
              subst hA
              go_wp2_with (first | (go_at_call 59; refine (cL _ eL).mono ?_; rintro e w4 ⟨rfl, ⟨q, rfl⟩⟩))
              go_ret
              exact ⟨rfl, below_drewNv (hb3.trans (hbw2.mono (by rw [hz.out]; exact hb3.size))) q⟩
            · have e0 : ((pos : Int) == 0) = false := beq_eq_false_iff_ne.mpr (by omega)
              have e1 : (pos == 0) = false := beq_eq_false_iff_ne.mpr h0
              rw [e1] at hleft
              simp only [Bool.not_false, Bool.true_and] at hleft
              cases hs2 : signB (R : Int)
              · simp only [hs2] at cS hleft
                have hA : false = ANS := by rw [← hleft]; rfl
                subst hA
                go_wp2_with (first | (go_at_call 59; refine (cL _ eL).mono ?_; rintro e w4 ⟨rfl, ⟨q, rfl⟩⟩) | (go_at_call 60; refine (cS _).mono ?_; rintro e w5 ⟨rfl, hb5⟩))
                go_ret
                exact ⟨rfl, (hb3.trans ((below_drewNv hbw2 q).mono (by rw [hz.out]; exact hb3.size))).trans (hb5.mono (by have := hb3.size; have := hsz; have := hz.out; show w.heap.size ≤ W.heap.size; omega))⟩
              · simp only [hs2] at cS hleft
                simp only [Bool.true_and] at hleft
                go_wp2_with (first | (go_at_call 59; refine (cL _ eL).mono ?_; rintro e w4 ⟨rfl, ⟨q, rfl⟩⟩) | (go_at_call 60; refine (cS _).mono ?_; rintro e w5 ⟨rfl, hb5⟩))
                have hsz2 : w2.heap.size < (W.drewN q).heap.size := hsz
                have hit3 : w5.heap[w2.heap.size]? = some (.stringIter s (pos + K)) := (hb5.block _ hsz2).trans hit2
                have hb6 : Below w2.heap.size w3 w5 := (below_drewNv hbw2 q).trans (hb5.mono (by omega))
                go_roundg g'
                case measure => omega
                case rel => exact ⟨pos + K, hit3, hb6, hleft, by omega⟩
          · rw [hl] at cL eL hleft
            simp only [Bool.true_or, Bool.true_and] at hleft
            clear cS
            go_wp2_with (first | (go_at_call 59; refine (cL _ eL).mono ?_; rintro e w4 ⟨rfl, ⟨q, rfl⟩⟩))
            go_roundg g'
            case measure => omega
            case rel => exact ⟨pos + K, hit2, below_drewNv hbw2 q, hleft, by omega⟩
        · have hnx : ∀ ty, (Instr.next (.pointer (some ⟨w2.heap.size, 0, none⟩)) true ty).run Tryd.prog wr = _ := fun ty => Lib.run_next_end_at wr w2.heap.size s pos ty hit hps
          have hA : true = ANS := (runesFrom_end s gk pos hps).symm.trans hleft
          subst hA
          go_wp2
          go_ret
          exact ⟨rfl, hb3.trans (hbw.mono (by rw [hz.out]; exact hb3.size))⟩
end Go.Proofs.YtfepbnolgceadaaDoor.Hand
