/- The program's WordOk answers as the reference's, for every text of at most 2^47 bytes. -/
import Derived.Test.YtjenfcocegbmdaaDoorMFnExactWordOkx4
import Derived.Test.YtjenfcocegbmdaaDoorKit
namespace Go.Proofs.YtjenfcocegbmdaaDoor.Pure
set_option linter.unusedSimpArgs false
set_option linter.unusedVariables false
set_option linter.unusedSectionVars false
open Go Go.RowKit Go.Proofs.YtjenfcocegbmdaaDoor.MFnExactWordOk Go.Proofs.YtjenfcocegbmdaaDoorW.PrintWords Go.Proofs.YtjenfcocegbmdaaDoorW.PrintLast Go.Proofs.YtjenfcocegbmdaaDoor.Mine

theorem bt_get (s : ByteArray) (i : Nat) (h : i < s.size) : bt s (i : Int) = ((s.get! i).toNat : Int) := by
  unfold bt
  rw [dif_pos (by simpa using h), Utf8W.get!_of_lt s i h]
  simp
theorem l1In_eq (x a b : Int) : spec_l1In.f x a b = some (decide (a ≤ x ∧ x ≤ b)) := by
  unfold spec_l1In.f
  by_cases h : a ≤ x
  · simp [h]
  · simp [h]
theorem spec_letter_eq (x : Int) : spec_l19Letter.f x = some (Hand.letterB x) := by
  unfold spec_l19Letter.f Hand.letterB
  simp only [l1In_eq, Option.bind_some, ge_iff_le]
  by_cases a1 : 65 ≤ x ∧ x ≤ 90
  · simp [a1.1, a1.2]
  by_cases a2 : 97 ≤ x ∧ x ≤ 122
  · simp [show 65 ≤ x by omega, show ¬ x ≤ 90 by omega, a2.1, a2.2]
  have hlow : ∀ (p q : Option Bool), (if 65 ≤ x then (if x ≤ 90 then some true else (if 97 ≤ x then (if x ≤ 122 then some true else p) else p)) else (if 97 ≤ x then (if x ≤ 122 then some true else p) else p)) = p := by
    intro p q
    split
    · rw [if_neg (by omega)]
      split
      · rw [if_neg (by omega)]
      · rfl
    · split
      · rw [if_neg (by omega)]
      · rfl
  refine (hlow _ none).trans ?_
  by_cases a3 : 192 ≤ x ∧ x ≤ 591
  · by_cases a4 : x = 215
    · subst a4; simp
    · by_cases a5 : x = 247
      · subst a5; simp
      · simp [a1, a2, a3, a4, a5]
  by_cases a6 : 913 ≤ x ∧ x ≤ 969
  · have a7 : ¬ (1040 ≤ x ∧ x ≤ 1103) := by omega
    have a8 : ¬ (192 ≤ x ∧ x ≤ 591 ∧ x ≠ 215 ∧ x ≠ 247) := fun h => a3 ⟨h.1, h.2.1⟩
    by_cases a9 : x = 930
    · subst a9; simp
    · simp [a1, a2, a3, a6, a7, a8, a9]
  · have a8 : ¬ (192 ≤ x ∧ x ≤ 591 ∧ x ≠ 215 ∧ x ≠ 247) := fun h => a3 ⟨h.1, h.2.1⟩
    have a9 : ¬ (913 ≤ x ∧ x ≤ 969 ∧ x ≠ 930) := fun h => a6 ⟨h.1, h.2.1⟩
    simp only [decide_eq_false a1, decide_eq_false a2, decide_eq_false a3, decide_eq_false a6, decide_eq_false a8, decide_eq_false a9, Bool.false_eq_true, if_false, Bool.false_or]
/-- A rune as the reference reads it, and as the program does. -/
theorem rune_step (s : ByteArray) (pos : Nat) (h : pos < s.size) (hs : s.size ≤ 140737488351232) :
    (∃ R K : Nat, Utf8.decode s pos = (R, K) ∧ spec_l19Rune.f s (pos : Int) = some ((R : Int), (K : Int)) ∧ 1 ≤ K ∧ K ≤ 2 ∧ pos + K ≤ s.size ∧ R < 2048)
    ∨ (spec_l19Rune.f s (pos : Int) = some (0, 0) ∧ 2048 ≤ (Utf8.decode s pos).1) := by
  have hb := Aside0.mk (bt_get s pos h)
  have hw := Aside0.mk (show wrap64 ((pos : Int) + 1) = ((pos + 1 : Nat) : Int) from (w64 (by omega) (by omega)).trans (by omega))
  have k0 := (s.get! pos).toNat_lt
  have k1 := (s.get! (pos + 1)).toNat_lt
  have hb2 := Aside0.mk (bt_get s (pos + 1))
  have hd := Aside0.mk (Lib.decode_at s pos)
  generalize (s.get! pos).toNat = b0 at hb hd k0
  generalize (s.get! (pos + 1)).toNat = b1 at hb2 hd k1
  generalize (s.get! (pos + 2)).toNat = b2 at hd
  generalize (s.get! (pos + 3)).toNat = b3 at hd
  obtain ⟨n, hn⟩ : ∃ n, s.size = n := ⟨_, rfl⟩
  have hn2 := Aside0.mk hn
  unfold spec_l19Rune.f
  rw [hn]
  rw [hn] at h hs
  clear hn
  rw [if_pos (by omega), if_pos (by omega), hb.out, hw.out]
  have hwb := Aside0.mk (show wrap64 (b0 : Int) = (b0 : Int) from w64 (by omega) (by omega))
  rw [hwb.out]
  by_cases c0 : b0 < 128
  · left
    refine ⟨b0, 1, ?_, ?_, by omega, by omega, by omega, by omega⟩
    · rw [hd.out, Lib.decodeN_ascii _ _ _ _ _ c0]
    · rw [if_pos (by omega)]; rfl
  rw [if_neg (by omega)]
  by_cases c1 : 194 ≤ b0 ∧ b0 ≤ 223 ∧ pos + 1 < n ∧ 128 ≤ b1 ∧ b1 ≤ 191
  · obtain ⟨d0, d1, d2, d3, d4⟩ := c1
    have hb3 := Aside0.mk (hb2.out (by rw [hn2.out]; exact d2))
    have hwb1 := Aside0.mk (show wrap64 (b1 : Int) = (b1 : Int) from w64 (by omega) (by omega))
    left
    refine ⟨(b0 - 192) * 64 + (b1 - 128), 2, ?_, ?_, by omega, by omega, by omega, by omega⟩
    · rw [hd.out, hn2.out]
      unfold Lib.decodeN
      rw [if_neg c0, if_pos ⟨by omega, by omega, by omega⟩, if_pos (by omega), show b0 % 32 * 64 + b1 % 64 = (b0 - 192) * 64 + (b1 - 128) by omega]
    · rw [if_neg (by omega), if_neg (by omega), if_neg (by omega), if_pos (by omega), if_pos (by omega), hb3.out, if_neg (by omega), if_neg (by omega), hwb1.out]
      rw [w64 (x := (b0 : Int) - 192) (by omega) (by omega), w64 (x := ((b0 : Int) - 192) * 64) (by omega) (by omega), w64 (x := ((b0 : Int) - 192) * 64 + (b1 : Int)) (by omega) (by omega), w64 (x := ((b0 : Int) - 192) * 64 + (b1 : Int) - 128) (by omega) (by omega)]
      rw [show ((((b0 - 192) * 64 + (b1 - 128) : Nat) : Nat) : Int) = ((b0 : Int) - 192) * 64 + (b1 : Int) - 128 by omega]
      rfl
  · right
    constructor
    · by_cases e0 : b0 < 194
      · rw [if_pos (by omega)]
      rw [if_neg (by omega)]
      by_cases e1 : 223 < b0
      · rw [if_pos (by omega)]
      rw [if_neg (by omega)]
      by_cases e2 : n ≤ pos + 1
      · rw [if_pos (by omega)]
      have hb3 := Aside0.mk (hb2.out (by rw [hn2.out]; omega))
      rw [if_neg (by omega), if_pos (by omega), if_pos (by omega), hb3.out]
      by_cases e3 : b1 < 128
      · rw [if_pos (by omega)]
      rw [if_neg (by omega), if_pos (by omega)]
    · rw [hd.out, hn2.out]
      have hsh := Lib.decodeN_shape (n - pos) b0 b1 b2 b3
      clear hd hb hw hb2 hn2 hwb
      rcases hsh with ⟨x, _⟩ | ⟨x1, x2, x3, x4, _⟩ | ⟨_, _, _, _, x, _, e⟩ | ⟨_, _, _, _, _, x, _, e⟩ | e
      · omega
      · exfalso; apply c1; omega
      · rw [e]; exact x
      · rw [e]; exact Nat.le_trans (by omega) x
      · rw [e]; simp
theorem high_rune (R : Nat) (h : 2048 ≤ R) (f : Bool) : Hand.runeB (R : Int) f = false := by
  unfold Hand.runeB Hand.letterB
  rw [Hand.sign_high _ (by omega), decide_eq_false (by omega), decide_eq_false (by omega), decide_eq_false (by omega), decide_eq_false (by omega), decide_eq_false (by omega)]
  simp
theorem word_from (s : ByteArray) (hs : s.size ≤ 140737488351232) : ∀ (d pos many : Nat), s.size - pos ≤ d → pos ≤ s.size → many ≤ pos → (many = 0 ↔ pos = 0) →
    Ev (fun k => spec_WordOk.l0 k s (many : Int) (pos : Int)) (Lib.validD (s.data.toList.drop pos) && decide (1 ≤ many + Lib.runeCountFrom s d pos ∧ many + Lib.runeCountFrom s d pos ≤ 16) && Hand.runesFrom s d pos) := by
  have last : ∀ (d pos many : Nat), pos = s.size → Ev (fun k => spec_WordOk.l0 k s (many : Int) (pos : Int)) (Lib.validD (s.data.toList.drop pos) && decide (1 ≤ many + Lib.runeCountFrom s d pos ∧ many + Lib.runeCountFrom s d pos ≤ 16) && Hand.runesFrom s d pos) := by
    intro d pos many hp
    refine ev_unroll ?_
    simp only [spec_WordOk.l0, if_neg (show ¬ (pos : Int) < (s.size : Int) by omega), l1In_eq, Option.bind_some]
    rw [Lib.runeCountFrom_end s d pos (by omega), Hand.runesFrom_end s d pos (by omega), List.drop_eq_nil_of_le (by rw [hp]; exact Nat.le_of_eq (Lib.size_eq s).symm)]
    refine ev_eq (Ev.now _) ?_
    have e : Lib.validD [] = true := rfl
    rw [e, Bool.true_and, Bool.and_true, Nat.add_zero, decide_eq_decide]
    omega
  intro d
  induction d with
  | zero => exact fun pos many hd hp _ _ => last 0 pos many (by omega)
  | succ d ih =>
    intro pos many hd hp hm hz
    by_cases hlt : pos < s.size
    · have hl : s.data.toList.length = s.size := (Lib.size_eq s).symm
      have hne : s.data.toList.drop pos ≠ [] := by
        intro h
        have := congrArg List.length h
        rw [List.length_drop, List.length_nil] at this
        omega
      rcases rune_step s pos hlt hs with ⟨R, K, e1, e2, p1, p2, p3, p4⟩ | ⟨e2, p1⟩
      · have hv : Lib.validD (s.data.toList.drop pos) = Lib.validD (s.data.toList.drop (pos + K)) := by
          rw [Lib.validD_step _ hne, Lib.decodeL_drop, e1]
          simp only
          rw [if_neg (by omega), List.drop_drop]
        have hc : Lib.runeCountFrom s (d + 1) pos = 1 + Lib.runeCountFrom s d (pos + K) := by
          simp only [Lib.runeCountFrom]
          rw [if_pos hlt, e1]
        have hr : Hand.runesFrom s (d + 1) pos = (Hand.runeB (R : Int) (pos == 0) && Hand.runesFrom s d (pos + K)) := by
          simp only [Hand.runesFrom]
          rw [if_pos hlt, e1]
        have q := ih (pos + K) (many + 1) (by omega) (by omega) (by omega) (by omega)
        rw [hv, hc, hr]
        have ew1 := Aside0.mk (show wrap64 ((many : Int) + 1) = ((many + 1 : Nat) : Int) from (w64 (by omega) (by omega)).trans (by omega))
        have ew2 := Aside0.mk (show wrap64 ((pos : Int) + (K : Int)) = ((pos + K : Nat) : Int) from (w64 (by omega) (by omega)).trans (by omega))
        have q2 : Hand.runeB (R : Int) (pos == 0) = true → Ev (fun k => spec_WordOk.l0 k s (wrap64 ((many : Int) + 1)) (wrap64 ((pos : Int) + (K : Int)))) (Lib.validD (s.data.toList.drop (pos + K)) && decide (1 ≤ many + (1 + Lib.runeCountFrom s d (pos + K)) ∧ many + (1 + Lib.runeCountFrom s d (pos + K)) ≤ 16) && (Hand.runeB (R : Int) (pos == 0) && Hand.runesFrom s d (pos + K))) := by
          intro h
          rw [ew1.out, ew2.out, h, Bool.true_and, show many + (1 + Lib.runeCountFrom s d (pos + K)) = many + 1 + Lib.runeCountFrom s d (pos + K) by omega]
          exact q
        have q3 : Hand.runeB (R : Int) (pos == 0) = false → false = (Lib.validD (s.data.toList.drop (pos + K)) && decide (1 ≤ many + (1 + Lib.runeCountFrom s d (pos + K)) ∧ many + (1 + Lib.runeCountFrom s d (pos + K)) ≤ 16) && (Hand.runeB (R : Int) (pos == 0) && Hand.runesFrom s d (pos + K))) := by
          intro h
          rw [h, Bool.false_and, Bool.and_false]
        refine ev_unroll ?_
        simp only [spec_WordOk.l0, if_pos (show (pos : Int) < (s.size : Int) by omega), e2, Option.bind_some, if_neg (show ¬ (K : Int) = 0 by omega), spec_letter_eq]
        cases hL : Hand.letterB (R : Int)
        · simp only [Bool.false_eq_true, if_false]
          by_cases h0 : many = 0
          · have h1 : pos = 0 := hz.1 h0
            have hB : Hand.runeB (R : Int) (pos == 0) = false := by unfold Hand.runeB; rw [hL, h1]; rfl
            simp only [if_pos (show (many : Int) = 0 by omega)]
            exact ev_eq (Ev.now _) (q3 hB)
          · have h1 : (pos == 0) = false := beq_eq_false_iff_ne.mpr (fun h => h0 (hz.2 h))
            have hB : Hand.runeB (R : Int) (pos == 0) = Hand.signB (R : Int) := by unfold Hand.runeB; rw [hL, h1]; rfl
            simp only [if_neg (show ¬ (many : Int) = 0 by omega)]
            by_cases s1 : (R : Int) = 45
            · simp only [if_pos s1]; exact q2 (by rw [hB, s1]; rfl)
            simp only [if_neg s1]
            by_cases s2 : (R : Int) = 95
            · simp only [if_pos s2]; exact q2 (by rw [hB, s2]; rfl)
            simp only [if_neg s2]
            by_cases s3 : (R : Int) = 46
            · simp only [if_pos s3]; exact q2 (by rw [hB, s3]; rfl)
            simp only [if_neg s3, l1In_eq, Option.bind_some]
            by_cases s4 : 48 ≤ (R : Int) ∧ (R : Int) ≤ 57
            · simp only [decide_eq_true s4, if_true]
              exact q2 (by rw [hB]; unfold Hand.signB; rw [decide_eq_true s4]; rfl)
            · simp only [decide_eq_false s4, Bool.false_eq_true, if_false]
              refine ev_eq (Ev.now _) (q3 ?_)
              rw [hB]
              unfold Hand.signB
              rw [decide_eq_false s4, decide_eq_false s1, decide_eq_false s2, decide_eq_false s3]
              rfl
        · simp only [if_true]
          exact q2 (by unfold Hand.runeB; rw [hL]; rfl)
      · have hr : Hand.runesFrom s (d + 1) pos = false := by
          simp only [Hand.runesFrom]
          rw [if_pos hlt, high_rune _ p1, Bool.false_and]
        rw [hr, Bool.and_false]
        refine ev_unroll ?_
        simp only [spec_WordOk.l0, if_pos (show (pos : Int) < (s.size : Int) by omega), e2, Option.bind_some, if_true]
        exact Ev.now _
    · exact last (d + 1) pos many (by omega)
theorem word_ev (s : ByteArray) (hs : s.size ≤ 140737488351232) : Ev (fun k => spec_WordOk.f k s) (Hand.wordB s) := by
  have h := word_from s hs s.size 0 0 (by omega) (by omega) (by omega) (by omega)
  simp only [Nat.zero_add, List.drop_zero] at h
  exact h
theorem impl_word_ev (s : ByteArray) (hs : s.size ≤ 140737488351232) : Ev (fun k => impl_WordOk.f k s) (Hand.wordB s) := by
  refine ⟨0, fun k _ => ?_⟩
  simp only [impl_WordOk.f, if_pos hs]
theorem FnExactWordOk : laws_FnExactWordOk.Pure := by
  intro a0 h0
  refine Ev.rounds (g := fun k => laws_FnExactWordOk.f k a0) ?_
  by_cases hb : (a0.size : Int) > 1048576
  · simp only [laws_FnExactWordOk.f, if_pos hb]
    exact Ev.now _
  simp only [laws_FnExactWordOk.f, if_neg hb]
  refine Ev.bind (word_ev a0 h0) (Ev.bind (impl_word_ev a0 h0) ?_)
  simp only [bne_self_eq_false, Bool.false_eq_true, if_false]
  exact Ev.now _

end Go.Proofs.YtjenfcocegbmdaaDoor.Pure
