/- The program's Find19 answers as the reference's, for every list of settings and every name. -/
import Derived.Test.YtjenfcocegbmdaaDoorMFnExactFind19x9
import Derived.Test.YtjenfcocegbmdaaDoorKit
namespace Go.Proofs.YtjenfcocegbmdaaDoor.Pure
set_option linter.unusedSimpArgs false
set_option linter.unusedVariables false
set_option linter.unusedSectionVars false
open Go Go.RowKit Go.Proofs.YtjenfcocegbmdaaDoor.MFnExactFind19 Go.Proofs.YtjenfcocegbmdaaDoorW.PrintWords Go.Proofs.YtjenfcocegbmdaaDoorW.PrintLast Go.Proofs.YtjenfcocegbmdaaDoor.Mine

theorem bt_get (s : ByteArray) (i : Nat) (h : i < s.size) : bt s (i : Int) = ((s.get! i).toNat : Int) := by
  unfold bt
  rw [dif_pos (by simpa using h), Utf8W.get!_of_lt s i h]
  simp
theorem l1In_eq (x a b : Int) : spec_l1In.f x a b = some (decide (a ≤ x ∧ x ≤ b)) := by
  unfold spec_l1In.f
  by_cases h : a ≤ x
  · simp [h]
  · simp [h]
theorem spec_letter_eq (x : Int) : spec_l19Letter.f x = some (Hand.letterB x) := by
  unfold spec_l19Letter.f Hand.letterB
  simp only [l1In_eq, Option.bind_some, ge_iff_le]
  by_cases a1 : 65 ≤ x ∧ x ≤ 90
  · simp [a1.1, a1.2]
  by_cases a2 : 97 ≤ x ∧ x ≤ 122
  · simp [show 65 ≤ x by omega, show ¬ x ≤ 90 by omega, a2.1, a2.2]
  have hlow : ∀ (p q : Option Bool), (if 65 ≤ x then (if x ≤ 90 then some true else (if 97 ≤ x then (if x ≤ 122 then some true else p) else p)) else (if 97 ≤ x then (if x ≤ 122 then some true else p) else p)) = p := by
    intro p q
    split
    · rw [if_neg (by omega)]
      split
      · rw [if_neg (by omega)]
      · rfl
    · split
      · rw [if_neg (by omega)]
      · rfl
  refine (hlow _ none).trans ?_
  by_cases a3 : 192 ≤ x ∧ x ≤ 591
  · by_cases a4 : x = 215
    · subst a4; simp
    · by_cases a5 : x = 247
      · subst a5; simp
      · simp [a1, a2, a3, a4, a5]
  by_cases a6 : 913 ≤ x ∧ x ≤ 969
  · have a7 : ¬ (1040 ≤ x ∧ x ≤ 1103) := by omega
    have a8 : ¬ (192 ≤ x ∧ x ≤ 591 ∧ x ≠ 215 ∧ x ≠ 247) := fun h => a3 ⟨h.1, h.2.1⟩
    by_cases a9 : x = 930
    · subst a9; simp
    · simp [a1, a2, a3, a6, a7, a8, a9]
  · have a8 : ¬ (192 ≤ x ∧ x ≤ 591 ∧ x ≠ 215 ∧ x ≠ 247) := fun h => a3 ⟨h.1, h.2.1⟩
    have a9 : ¬ (913 ≤ x ∧ x ≤ 969 ∧ x ≠ 930) := fun h => a6 ⟨h.1, h.2.1⟩
    simp only [decide_eq_false a1, decide_eq_false a2, decide_eq_false a3, decide_eq_false a6, decide_eq_false a8, decide_eq_false a9, Bool.false_eq_true, if_false, Bool.false_or]
/-- A rune as the reference reads it, and as the program does. -/
theorem rune_step (s : ByteArray) (pos : Nat) (h : pos < s.size) (hs : s.size ≤ 140737488351232) :
    (∃ R K : Nat, Utf8.decode s pos = (R, K) ∧ spec_l19Rune.f s (pos : Int) = some ((R : Int), (K : Int)) ∧ 1 ≤ K ∧ K ≤ 2 ∧ pos + K ≤ s.size ∧ R < 2048)
    ∨ (spec_l19Rune.f s (pos : Int) = some (0, 0) ∧ 2048 ≤ (Utf8.decode s pos).1) := by
  have hb := Aside0.mk (bt_get s pos h)
  have hw := Aside0.mk (show wrap64 ((pos : Int) + 1) = ((pos + 1 : Nat) : Int) from (w64 (by omega) (by omega)).trans (by omega))
  have k0 := (s.get! pos).toNat_lt
  have k1 := (s.get! (pos + 1)).toNat_lt
  have hb2 := Aside0.mk (bt_get s (pos + 1))
  have hd := Aside0.mk (Lib.decode_at s pos)
  generalize (s.get! pos).toNat = b0 at hb hd k0
  generalize (s.get! (pos + 1)).toNat = b1 at hb2 hd k1
  generalize (s.get! (pos + 2)).toNat = b2 at hd
  generalize (s.get! (pos + 3)).toNat = b3 at hd
  obtain ⟨n, hn⟩ : ∃ n, s.size = n := ⟨_, rfl⟩
  have hn2 := Aside0.mk hn
  unfold spec_l19Rune.f
  rw [hn]
  rw [hn] at h hs
  clear hn
  rw [if_pos (by omega), if_pos (by omega), hb.out, hw.out]
  have hwb := Aside0.mk (show wrap64 (b0 : Int) = (b0 : Int) from w64 (by omega) (by omega))
  rw [hwb.out]
  by_cases c0 : b0 < 128
  · left
    refine ⟨b0, 1, ?_, ?_, by omega, by omega, by omega, by omega⟩
    · rw [hd.out, Lib.decodeN_ascii _ _ _ _ _ c0]
    · rw [if_pos (by omega)]; rfl
  rw [if_neg (by omega)]
  by_cases c1 : 194 ≤ b0 ∧ b0 ≤ 223 ∧ pos + 1 < n ∧ 128 ≤ b1 ∧ b1 ≤ 191
  · obtain ⟨d0, d1, d2, d3, d4⟩ := c1
    have hb3 := Aside0.mk (hb2.out (by rw [hn2.out]; exact d2))
    have hwb1 := Aside0.mk (show wrap64 (b1 : Int) = (b1 : Int) from w64 (by omega) (by omega))
    left
    refine ⟨(b0 - 192) * 64 + (b1 - 128), 2, ?_, ?_, by omega, by omega, by omega, by omega⟩
    · rw [hd.out, hn2.out]
      unfold Lib.decodeN
      rw [if_neg c0, if_pos ⟨by omega, by omega, by omega⟩, if_pos (by omega), show b0 % 32 * 64 + b1 % 64 = (b0 - 192) * 64 + (b1 - 128) by omega]
    · rw [if_neg (by omega), if_neg (by omega), if_neg (by omega), if_pos (by omega), if_pos (by omega), hb3.out, if_neg (by omega), if_neg (by omega), hwb1.out]
      rw [w64 (x := (b0 : Int) - 192) (by omega) (by omega), w64 (x := ((b0 : Int) - 192) * 64) (by omega) (by omega), w64 (x := ((b0 : Int) - 192) * 64 + (b1 : Int)) (by omega) (by omega), w64 (x := ((b0 : Int) - 192) * 64 + (b1 : Int) - 128) (by omega) (by omega)]
      rw [show ((((b0 - 192) * 64 + (b1 - 128) : Nat) : Nat) : Int) = ((b0 : Int) - 192) * 64 + (b1 : Int) - 128 by omega]
      rfl
  · right
    constructor
    · by_cases e0 : b0 < 194
      · rw [if_pos (by omega)]
      rw [if_neg (by omega)]
      by_cases e1 : 223 < b0
      · rw [if_pos (by omega)]
      rw [if_neg (by omega)]
      by_cases e2 : n ≤ pos + 1
      · rw [if_pos (by omega)]
      have hb3 := Aside0.mk (hb2.out (by rw [hn2.out]; omega))
      rw [if_neg (by omega), if_pos (by omega), if_pos (by omega), hb3.out]
      by_cases e3 : b1 < 128
      · rw [if_pos (by omega)]
      rw [if_neg (by omega), if_pos (by omega)]
    · rw [hd.out, hn2.out]
      have hsh := Lib.decodeN_shape (n - pos) b0 b1 b2 b3
      clear hd hb hw hb2 hn2 hwb
      rcases hsh with ⟨x, _⟩ | ⟨x1, x2, x3, x4, _⟩ | ⟨_, _, _, _, x, _, e⟩ | ⟨_, _, _, _, _, x, _, e⟩ | e
      · omega
      · exfalso; apply c1; omega
      · rw [e]; exact x
      · rw [e]; exact Nat.le_trans (by omega) x
      · rw [e]; simp
theorem high_rune (R : Nat) (h : 2048 ≤ R) (f : Bool) : Hand.runeB (R : Int) f = false := by
  unfold Hand.runeB Hand.letterB
  rw [Hand.sign_high _ (by omega), decide_eq_false (by omega), decide_eq_false (by omega), decide_eq_false (by omega), decide_eq_false (by omega), decide_eq_false (by omega)]
  simp
theorem word_from (s : ByteArray) (hs : s.size ≤ 140737488351232) : ∀ (d pos many : Nat), s.size - pos ≤ d → pos ≤ s.size → many ≤ pos → (many = 0 ↔ pos = 0) →
    Ev (fun k => spec_WordOk.l0 k s (many : Int) (pos : Int)) (Lib.validD (s.data.toList.drop pos) && decide (1 ≤ many + Lib.runeCountFrom s d pos ∧ many + Lib.runeCountFrom s d pos ≤ 16) && Hand.runesFrom s d pos) := by
  have last : ∀ (d pos many : Nat), pos = s.size → Ev (fun k => spec_WordOk.l0 k s (many : Int) (pos : Int)) (Lib.validD (s.data.toList.drop pos) && decide (1 ≤ many + Lib.runeCountFrom s d pos ∧ many + Lib.runeCountFrom s d pos ≤ 16) && Hand.runesFrom s d pos) := by
    intro d pos many hp
    refine ev_unroll ?_
    simp only [spec_WordOk.l0, if_neg (show ¬ (pos : Int) < (s.size : Int) by omega), l1In_eq, Option.bind_some]
    rw [Lib.runeCountFrom_end s d pos (by omega), Hand.runesFrom_end s d pos (by omega), List.drop_eq_nil_of_le (by rw [hp]; exact Nat.le_of_eq (Lib.size_eq s).symm)]
    refine ev_eq (Ev.now _) ?_
    have e : Lib.validD [] = true := rfl
    rw [e, Bool.true_and, Bool.and_true, Nat.add_zero, decide_eq_decide]
    omega
  intro d
  induction d with
  | zero => exact fun pos many hd hp _ _ => last 0 pos many (by omega)
  | succ d ih =>
    intro pos many hd hp hm hz
    by_cases hlt : pos < s.size
    · have hl : s.data.toList.length = s.size := (Lib.size_eq s).symm
      have hne : s.data.toList.drop pos ≠ [] := by
        intro h
        have := congrArg List.length h
        rw [List.length_drop, List.length_nil] at this
        omega
      rcases rune_step s pos hlt hs with ⟨R, K, e1, e2, p1, p2, p3, p4⟩ | ⟨e2, p1⟩
      · have hv : Lib.validD (s.data.toList.drop pos) = Lib.validD (s.data.toList.drop (pos + K)) := by
          rw [Lib.validD_step _ hne, Lib.decodeL_drop, e1]
          simp only
          rw [if_neg (by omega), List.drop_drop]
        have hc : Lib.runeCountFrom s (d + 1) pos = 1 + Lib.runeCountFrom s d (pos + K) := by
          simp only [Lib.runeCountFrom]
          rw [if_pos hlt, e1]
        have hr : Hand.runesFrom s (d + 1) pos = (Hand.runeB (R : Int) (pos == 0) && Hand.runesFrom s d (pos + K)) := by
          simp only [Hand.runesFrom]
          rw [if_pos hlt, e1]
        have q := ih (pos + K) (many + 1) (by omega) (by omega) (by omega) (by omega)
        rw [hv, hc, hr]
        have ew1 := Aside0.mk (show wrap64 ((many : Int) + 1) = ((many + 1 : Nat) : Int) from (w64 (by omega) (by omega)).trans (by omega))
        have ew2 := Aside0.mk (show wrap64 ((pos : Int) + (K : Int)) = ((pos + K : Nat) : Int) from (w64 (by omega) (by omega)).trans (by omega))
        have q2 : Hand.runeB (R : Int) (pos == 0) = true → Ev (fun k => spec_WordOk.l0 k s (wrap64 ((many : Int) + 1)) (wrap64 ((pos : Int) + (K : Int)))) (Lib.validD (s.data.toList.drop (pos + K)) && decide (1 ≤ many + (1 + Lib.runeCountFrom s d (pos + K)) ∧ many + (1 + Lib.runeCountFrom s d (pos + K)) ≤ 16) && (Hand.runeB (R : Int) (pos == 0) && Hand.runesFrom s d (pos + K))) := by
          intro h
          rw [ew1.out, ew2.out, h, Bool.true_and, show many + (1 + Lib.runeCountFrom s d (pos + K)) = many + 1 + Lib.runeCountFrom s d (pos + K) by omega]
          exact q
        have q3 : Hand.runeB (R : Int) (pos == 0) = false → false = (Lib.validD (s.data.toList.drop (pos + K)) && decide (1 ≤ many + (1 + Lib.runeCountFrom s d (pos + K)) ∧ many + (1 + Lib.runeCountFrom s d (pos + K)) ≤ 16) && (Hand.runeB (R : Int) (pos == 0) && Hand.runesFrom s d (pos + K))) := by
          intro h
          rw [h, Bool.false_and, Bool.and_false]
        refine ev_unroll ?_
        simp only [spec_WordOk.l0, if_pos (show (pos : Int) < (s.size : Int) by omega), e2, Option.bind_some, if_neg (show ¬ (K : Int) = 0 by omega), spec_letter_eq]
        cases hL : Hand.letterB (R : Int)
        · simp only [Bool.false_eq_true, if_false]
          by_cases h0 : many = 0
          · have h1 : pos = 0 := hz.1 h0
            have hB : Hand.runeB (R : Int) (pos == 0) = false := by unfold Hand.runeB; rw [hL, h1]; rfl
            simp only [if_pos (show (many : Int) = 0 by omega)]
            exact ev_eq (Ev.now _) (q3 hB)
          · have h1 : (pos == 0) = false := beq_eq_false_iff_ne.mpr (fun h => h0 (hz.2 h))
            have hB : Hand.runeB (R : Int) (pos == 0) = Hand.signB (R : Int) := by unfold Hand.runeB; rw [hL, h1]; rfl
            simp only [if_neg (show ¬ (many : Int) = 0 by omega)]
            by_cases s1 : (R : Int) = 45
            · simp only [if_pos s1]; exact q2 (by rw [hB, s1]; rfl)
            simp only [if_neg s1]
            by_cases s2 : (R : Int) = 95
            · simp only [if_pos s2]; exact q2 (by rw [hB, s2]; rfl)
            simp only [if_neg s2]
            by_cases s3 : (R : Int) = 46
            · simp only [if_pos s3]; exact q2 (by rw [hB, s3]; rfl)
            simp only [if_neg s3, l1In_eq, Option.bind_some]
            by_cases s4 : 48 ≤ (R : Int) ∧ (R : Int) ≤ 57
            · simp only [decide_eq_true s4, if_true]
              exact q2 (by rw [hB]; unfold Hand.signB; rw [decide_eq_true s4]; rfl)
            · simp only [decide_eq_false s4, Bool.false_eq_true, if_false]
              refine ev_eq (Ev.now _) (q3 ?_)
              rw [hB]
              unfold Hand.signB
              rw [decide_eq_false s4, decide_eq_false s1, decide_eq_false s2, decide_eq_false s3]
              rfl
        · simp only [if_true]
          exact q2 (by unfold Hand.runeB; rw [hL]; rfl)
      · have hr : Hand.runesFrom s (d + 1) pos = false := by
          simp only [Hand.runesFrom]
          rw [if_pos hlt, high_rune _ p1, Bool.false_and]
        rw [hr, Bool.and_false]
        refine ev_unroll ?_
        simp only [spec_WordOk.l0, if_pos (show (pos : Int) < (s.size : Int) by omega), e2, Option.bind_some, if_true]
        exact Ev.now _
    · exact last (d + 1) pos many (by omega)
theorem word_ev (s : ByteArray) (hs : s.size ≤ 140737488351232) : Ev (fun k => spec_WordOk.f k s) (Hand.wordB s) := by
  have h := word_from s hs s.size 0 0 (by omega) (by omega) (by omega) (by omega)
  simp only [Nat.zero_add, List.drop_zero] at h
  exact h
theorem impl_word_ev (s : ByteArray) (hs : s.size ≤ 140737488351232) : Ev (fun k => impl_WordOk.f k s) (Hand.wordB s) := by
  refine ⟨0, fun k _ => ?_⟩
  simp only [impl_WordOk.f, if_pos hs]
theorem digit_byte (b : Nat) (h : b < 256) : Hand.digitB (UInt8.ofNat b) = decide (48 ≤ b ∧ b ≤ 57) := by
  unfold Hand.digitB
  rw [UInt8.toNat_ofNat', Nat.mod_eq_of_lt h]
theorem value_from (s : ByteArray) (hs : s.size ≤ 140737488351232) : ∀ (d pos : Nat), s.size - pos ≤ d → pos ≤ s.size →
    Ev (fun k => spec_l19Value.l0 k s (pos : Int)) (decide (1 ≤ s.size ∧ s.size ≤ 9) && (s.data.toList.drop pos).all Hand.digitB) := by
  have last : ∀ pos : Nat, pos = s.size → Ev (fun k => spec_l19Value.l0 k s (pos : Int)) (decide (1 ≤ s.size ∧ s.size ≤ 9) && (s.data.toList.drop pos).all Hand.digitB) := by
    intro pos hp
    refine ev_unroll ?_
    simp only [spec_l19Value.l0, if_neg (show ¬ (pos : Int) < (s.size : Int) by omega), l1In_eq, Option.bind_some]
    refine ev_eq (Ev.now _) ?_
    rw [List.drop_eq_nil_of_le (by rw [hp]; exact Nat.le_of_eq (Lib.size_eq s).symm), List.all_nil, Bool.and_true, decide_eq_decide]
    omega
  intro d
  induction d with
  | zero => exact fun pos hd hp => last pos (by omega)
  | succ d ih =>
    intro pos hd hp
    by_cases hlt : pos < s.size
    · have hl : s.data.toList.length = s.size := (Lib.size_eq s).symm
      have q := ih (pos + 1) (by omega) (by omega)
      have hb := Aside0.mk (bt_get s pos hlt)
      have hw := Aside0.mk (show wrap64 ((pos : Int) + 1) = ((pos + 1 : Nat) : Int) from (w64 (by omega) (by omega)).trans (by omega))
      have k0 := (s.get! pos).toNat_lt
      have e1 : s.data.toList.drop pos = s.get! pos :: s.data.toList.drop (pos + 1) := by
        rw [List.drop_eq_getElem_cons (show pos < s.data.toList.length by omega)]
        congr 1
        rw [Utf8W.get!_of_lt s pos hlt]
        rfl
      have e2 : Hand.digitB (s.get! pos) = decide (48 ≤ (s.get! pos).toNat ∧ (s.get! pos).toNat ≤ 57) := rfl
      rw [e1, List.all_cons, e2]
      generalize (s.get! pos).toNat = b0 at hb k0
      refine ev_unroll ?_
      simp only [spec_l19Value.l0, if_pos (show (pos : Int) < (s.size : Int) by omega), if_pos (show (0 : Int) ≤ (pos : Int) by omega), hb.out, hw.out]
      by_cases c0 : (b0 : Int) < 48
      · simp only [if_pos c0]
        refine ev_eq (Ev.now _) ?_
        rw [decide_eq_false (show ¬ (48 ≤ b0 ∧ b0 ≤ 57) by omega), Bool.false_and, Bool.and_false]
      simp only [if_neg c0]
      by_cases c1 : (b0 : Int) > 57
      · simp only [if_pos c1]
        refine ev_eq (Ev.now _) ?_
        rw [decide_eq_false (show ¬ (48 ≤ b0 ∧ b0 ≤ 57) by omega), Bool.false_and, Bool.and_false]
      simp only [if_neg c1]
      rw [decide_eq_true (show 48 ≤ b0 ∧ b0 ≤ 57 by omega), Bool.true_and]
      exact q
    · exact last pos (by omega)
theorem value_ev (s : ByteArray) (hs : s.size ≤ 140737488351232) : Ev (fun k => spec_l19Value.f k s) (Hand.valueB s) := by
  unfold spec_l19Value.f Hand.valueB
  refine Ev.bind (word_ev s hs) ?_
  cases hw : Hand.wordB s
  · simp only [Bool.false_eq_true, if_false, Bool.false_or]
    have h := value_from s hs s.size 0 (by omega) (by omega)
    simp only [List.drop_zero] at h
    exact h
  · simp only [if_true, Bool.true_or]
    exact Ev.now _
theorem impl_value_ev (s : ByteArray) (hs : s.size ≤ 140737488351232) : Ev (fun k => impl_valueOk.f k s) (Hand.valueB s) := by
  refine ⟨0, fun k _ => ?_⟩
  simp only [impl_valueOk.f, if_pos hs]
/-- The same setting, as the reference's type has it. -/
def cv (x : S46) : S47 := ⟨x.f0, x.f1⟩
def Small (l : List S47) : Prop := l.length ≤ 1048576 ∧ ∀ x ∈ l, x.f0.size ≤ 1048576 ∧ x.f1.size ≤ 1048576
theorem rd47_mem (l : List S47) (i : Nat) (h : i < l.length) : rd_T47 l (i : Int) ∈ l := by
  have e : rd_T47 l (i : Int) = l[i] := by simp [rd_T47, h]
  rw [e]; exact List.getElem_mem h
/-- Both sides of SettingsOk. -/
theorem settings_from (l : List S47) (hl : Small l) : ∀ (d i : Nat), l.length - i ≤ d → i ≤ l.length →
    ∃ b, Ev (fun k => spec_SettingsOk.l0 k l (i : Int)) b ∧ Ev (fun k => impl_SettingsOk.l0 k l l (l.length : Int) (i : Int)) b := by
  have hn := hl.1
  have last : ∀ i : Nat, i = l.length → ∃ b, Ev (fun k => spec_SettingsOk.l0 k l (i : Int)) b ∧ Ev (fun k => impl_SettingsOk.l0 k l l (l.length : Int) (i : Int)) b := by
    intro i hi
    refine ⟨decide ((l.length : Int) ≤ 40), ev_unroll ?_, ev_unroll ?_⟩
    · simp only [spec_SettingsOk.l0, if_neg (show ¬ (i : Int) < (l.length : Int) by omega)]
      exact Ev.now _
    · simp only [impl_SettingsOk.l0, if_neg (show ¬ (i : Int) < (l.length : Int) by omega)]
      exact Ev.now _
  intro d
  induction d with
  | zero => exact fun i hd hi => last i (by omega)
  | succ d ih =>
    intro i hd hi
    by_cases hlt : i < l.length
    · obtain ⟨s0, s1⟩ := hl.2 _ (rd47_mem l i hlt)
      have hw := Aside0.mk (show wrap64 ((i : Int) + 1) = ((i + 1 : Nat) : Int) from (w64 (by omega) (by omega)).trans (by omega))
      have hw2 := Aside0.mk (show wrap64 ((i : Int) - 1) = (i : Int) - 1 from w64 (by omega) (by omega))
      obtain ⟨b, p, q⟩ := ih (i + 1) (by omega) (by omega)
      have hi1 : (i : Int) < (l.length : Int) := by omega
      have hi0 : (0 : Int) ≤ (i : Int) := by omega
      have w1 := word_ev (rd_T47 l (i : Int)).f0 (by omega)
      have w2 := impl_word_ev (rd_T47 l (i : Int)).f0 (by omega)
      have v1 := value_ev (rd_T47 l (i : Int)).f1 (by omega)
      have v2 := impl_value_ev (rd_T47 l (i : Int)).f1 (by omega)
      cases hW : Hand.wordB (rd_T47 l (i : Int)).f0
      · rw [hW] at w1 w2
        refine ⟨false, ev_unroll ?_, ev_unroll ?_⟩
        · simp only [spec_SettingsOk.l0, if_pos hi1, if_pos hi0]
          refine Ev.bind w1 ?_
          simp only [Bool.false_eq_true, if_false]
          exact Ev.now _
        · simp only [impl_SettingsOk.l0, if_pos hi1, if_pos hi0]
          refine Ev.bind w2 ?_
          simp only [Bool.false_eq_true, if_false]
          exact Ev.now _
      rw [hW] at w1 w2
      cases hV : Hand.valueB (rd_T47 l (i : Int)).f1
      · rw [hV] at v1 v2
        refine ⟨false, ev_unroll ?_, ev_unroll ?_⟩
        · simp only [spec_SettingsOk.l0, if_pos hi1, if_pos hi0]
          refine Ev.bind w1 ?_
          simp only [if_true]
          refine Ev.bind v1 ?_
          simp only [Bool.false_eq_true, if_false]
          exact Ev.now _
        · simp only [impl_SettingsOk.l0, if_pos hi1, if_pos hi0]
          refine Ev.bind w2 ?_
          simp only [if_true]
          refine Ev.bind v2 ?_
          simp only [Bool.false_eq_true, if_false]
          exact Ev.now _
      rw [hV] at v1 v2
      by_cases hz : (i : Int) > 0
      · have hj : (0 : Int) ≤ (i : Int) - 1 := by omega
        have hj2 : (i : Int) - 1 < (l.length : Int) := by omega
        by_cases hc : Op.bytesLess (rd_T47 l ((i : Int) - 1)).f0.toList (rd_T47 l (i : Int)).f0.toList = true
        · refine ⟨b, ev_unroll ?_, ev_unroll ?_⟩
          · simp only [spec_SettingsOk.l0, if_pos hi1, if_pos hi0]
            refine Ev.bind w1 ?_
            simp only [if_true]
            refine Ev.bind v1 ?_
            simp only [if_true, if_pos hz, hw2.out, if_pos hj, if_pos hj2, if_pos hc, hw.out]
            exact p
          · simp only [impl_SettingsOk.l0, if_pos hi1, if_pos hi0]
            refine Ev.bind w2 ?_
            simp only [if_true]
            refine Ev.bind v2 ?_
            simp only [if_true, if_pos hz, hw2.out, if_pos hj, if_pos hj2, if_pos hc, hw.out]
            exact q
        · refine ⟨false, ev_unroll ?_, ev_unroll ?_⟩
          · simp only [spec_SettingsOk.l0, if_pos hi1, if_pos hi0]
            refine Ev.bind w1 ?_
            simp only [if_true]
            refine Ev.bind v1 ?_
            simp only [if_true, if_pos hz, hw2.out, if_pos hj, if_pos hj2, if_neg hc]
            exact Ev.now _
          · simp only [impl_SettingsOk.l0, if_pos hi1, if_pos hi0]
            refine Ev.bind w2 ?_
            simp only [if_true]
            refine Ev.bind v2 ?_
            simp only [if_true, if_pos hz, hw2.out, if_pos hj, if_pos hj2, if_neg hc]
            exact Ev.now _
      · refine ⟨b, ev_unroll ?_, ev_unroll ?_⟩
        · simp only [spec_SettingsOk.l0, if_pos hi1, if_pos hi0]
          refine Ev.bind w1 ?_
          simp only [if_true]
          refine Ev.bind v1 ?_
          simp only [if_true, if_neg hz, hw.out]
          exact p
        · simp only [impl_SettingsOk.l0, if_pos hi1, if_pos hi0]
          refine Ev.bind w2 ?_
          simp only [if_true]
          refine Ev.bind v2 ?_
          simp only [if_true, if_neg hz, hw.out]
          exact q
    · exact last i (by omega)
theorem settings_both (l : List S47) (hl : Small l) : ∃ b, Ev (fun k => spec_SettingsOk.f k l) b ∧ Ev (fun k => impl_SettingsOk.f k l) b :=
  settings_from l hl l.length 0 (by omega) (by omega)
theorem szSetting_some (a b : ByteArray) (x : Int) (ha : a.size ≤ 9223372036854775807) (hb : b.size ≤ 9223372036854775807) (x0 : 0 ≤ x) (x1 : x ≤ 1048576) :
    ∃ v, laws_szSetting.f a b x = some v ∧ (v < 0 ∨ (0 ≤ v ∧ v ≤ 1048576 ∧ a.size ≤ 1048576 ∧ b.size ≤ 1048576)) := by
  have h1 := Aside0.mk (show wrap64 (x - (a.size : Int)) = x - (a.size : Int) from w64 (by omega) (by omega))
  unfold laws_szSetting.f
  rw [h1.out]
  by_cases c : x - (a.size : Int) < 0
  · exact ⟨-1, by rw [if_pos c], .inl (by decide)⟩
  · have h2 := Aside0.mk (show wrap64 (x - (a.size : Int) - (b.size : Int)) = x - (a.size : Int) - (b.size : Int) from w64 (by omega) (by omega))
    rw [if_neg c, h2.out]
    by_cases c2 : x - (a.size : Int) - (b.size : Int) < 0
    · exact ⟨-1, by rw [if_pos c2], .inl (by decide)⟩
    · exact ⟨_, by rw [if_neg c2], .inr ⟨by omega, by omega, by omega, by omega⟩⟩
/-- What comes in is small, or the law says true at once. -/
theorem sz_ev (l : List S46) (hm : l.length ≤ 9223372036854775807) (hs : ∀ x ∈ l, x.f0.size ≤ 9223372036854775807 ∧ x.f1.size ≤ 9223372036854775807) : ∃ v, Ev (fun k => laws_szSettingS.f k l 1048576) v ∧ (¬ v < 0 → Small (l.map cv)) := by
  have key : ∀ (d i : Nat) (x : Int), l.length - i ≤ d → i ≤ l.length → l.length ≤ 1048576 → 0 ≤ x → x ≤ 1048576 → ∃ v, Ev (fun k => laws_szSettingS.l0 k l x (i : Int)) v ∧ (¬ v < 0 → ∀ y ∈ l.drop i, y.f0.size ≤ 1048576 ∧ y.f1.size ≤ 1048576) := by
    have last : ∀ (i : Nat) (x : Int), i = l.length → ∃ v, Ev (fun k => laws_szSettingS.l0 k l x (i : Int)) v ∧ (¬ v < 0 → ∀ y ∈ l.drop i, y.f0.size ≤ 1048576 ∧ y.f1.size ≤ 1048576) := by
      intro i x hi
      refine ⟨x, ev_unroll ?_, fun _ y hy => ?_⟩
      · simp only [laws_szSettingS.l0, if_neg (show ¬ (i : Int) < (l.length : Int) by omega)]
        exact Ev.now _
      · rw [hi, List.drop_length] at hy; cases hy
    intro d
    induction d with
    | zero => exact fun i x hd hi _ _ _ => last i x (by omega)
    | succ d ih =>
      intro i x hd hi hn hx0 hx1
      by_cases hlt : i < l.length
      · have e1 : rd_T46 l (i : Int) = l[i] := by simp [rd_T46, hlt]
        obtain ⟨sa, sb⟩ := hs _ (List.getElem_mem hlt)
        have hw := Aside0.mk (show wrap64 ((i : Int) + 1) = ((i + 1 : Nat) : Int) from (w64 (by omega) (by omega)).trans (by omega))
        obtain ⟨v, ev, hv⟩ := szSetting_some l[i].f0 l[i].f1 x sa sb hx0 hx1
        rcases hv with hv | ⟨v0, v1, s0, s1⟩
        · refine ⟨-1, ev_unroll ?_, fun h => absurd (by decide) h⟩
          simp only [laws_szSettingS.l0, if_pos (show (i : Int) < (l.length : Int) by omega), if_pos (show (0 : Int) ≤ (i : Int) by omega), e1, ev, Option.bind_some, if_pos hv]
          exact Ev.now _
        · obtain ⟨z, q, hz⟩ := ih (i + 1) v (by omega) (by omega) hn v0 v1
          refine ⟨z, ev_unroll ?_, fun h y hy => ?_⟩
          · simp only [laws_szSettingS.l0, if_pos (show (i : Int) < (l.length : Int) by omega), if_pos (show (0 : Int) ≤ (i : Int) by omega), e1, ev, Option.bind_some, if_neg (show ¬ v < 0 by omega), hw.out]
            exact q
          · rw [List.drop_eq_getElem_cons hlt] at hy
            rcases List.mem_cons.1 hy with rfl | hy
            · exact ⟨s0, s1⟩
            · exact hz h y hy
      · exact last i x (by omega)
  unfold laws_szSettingS.f
  rw [w64 (x := 1048576 - (l.length : Int)) (by omega) (by omega)]
  by_cases h0 : 1048576 - (l.length : Int) < 0
  · refine ⟨-1, ?_, fun h => absurd (by decide) h⟩
    simp only [if_pos h0]
    exact Ev.now _
  · obtain ⟨v, q, hv⟩ := key l.length 0 (1048576 - (l.length : Int)) (by omega) (by omega) (by omega) (by omega) (by omega)
    refine ⟨v, ?_, fun h => ⟨by rw [List.length_map]; omega, fun y hy => ?_⟩⟩
    · simp only [if_neg h0]
      exact q
    · obtain ⟨z, hz, rfl⟩ := List.mem_map.1 hy
      exact hv h z (by simpa using hz)
/-- A copy. -/
theorem toSettingS_ev (l : List S46) (hn : l.length ≤ 1048576) : Ev (fun k => laws_toSettingS.f k l) (l.map cv) := by
  have key : ∀ (d i : Nat) (m : List S47), l.length - i ≤ d → i ≤ l.length → m.length = l.length → m.take i = (l.map cv).take i → Ev (fun k => laws_toSettingS.l0 k l m (i : Int)) (l.map cv) := by
    have last : ∀ (i : Nat) (m : List S47), i = l.length → m.length = l.length → m.take i = (l.map cv).take i → Ev (fun k => laws_toSettingS.l0 k l m (i : Int)) (l.map cv) := by
      intro i m hi hm ht
      refine ev_unroll ?_
      simp only [laws_toSettingS.l0, if_neg (show ¬ (i : Int) < (l.length : Int) by omega)]
      refine ev_eq (Ev.now _) ?_
      rw [List.take_of_length_le (by omega), List.take_of_length_le (by rw [List.length_map]; omega)] at ht
      exact ht
    intro d
    induction d with
    | zero => exact fun i m hd hi hm ht => last i m (by omega) hm ht
    | succ d ih =>
      intro i m hd hi hm ht
      by_cases hlt : i < l.length
      · have e1 : rd_T46 l (i : Int) = l[i] := by simp [rd_T46, hlt]
        have hw := Aside0.mk (show wrap64 ((i : Int) + 1) = ((i + 1 : Nat) : Int) from (w64 (by omega) (by omega)).trans (by omega))
        have e2 : (⟨l[i].f0, l[i].f1⟩ : S47) = (l.map cv).getD i z47 := by simp [cv, hlt]
        have q := ih (i + 1) (m.set i ((l.map cv).getD i z47)) (by omega) (by omega) (by simpa using hm) (take_set_succ z47 (by rw [List.length_map]; exact hm) ht (by rw [List.length_map]; exact hlt))
        refine ev_unroll ?_
        simp only [laws_toSettingS.l0, if_pos (show (i : Int) < (l.length : Int) by omega), if_pos (show (0 : Int) ≤ (i : Int) by omega), e1, laws_toSetting.f, Option.bind_some, if_pos (show (i : Int) < (m.length : Int) by omega), Int.toNat_natCast, e2, hw.out]
        exact q
      · exact last i m (by omega) hm ht
  unfold laws_toSettingS.f
  simp only [if_pos (show (0 : Int) ≤ (l.length : Int) by omega), Int.toNat_natCast, if_pos (show l.length ≤ 8796093022208 by omega)]
  exact key l.length 0 _ (by omega) (by omega) (by simp) (by simp)
theorem eqSettingS_ev (l : List S47) (hn : l.length ≤ 1048576) : Ev (fun k => laws_eqSettingS.f k l l) true := by
  have key : ∀ (d i : Nat), l.length - i ≤ d → i ≤ l.length → Ev (fun k => laws_eqSettingS.l0 k l l (i : Int)) true := by
    have last : ∀ i : Nat, i = l.length → Ev (fun k => laws_eqSettingS.l0 k l l (i : Int)) true := by
      intro i hi
      refine ev_unroll ?_
      simp only [laws_eqSettingS.l0, if_neg (show ¬ (i : Int) < (l.length : Int) by omega)]
      exact Ev.now _
    intro d
    induction d with
    | zero => exact fun i hd hi => last i (by omega)
    | succ d ih =>
      intro i hd hi
      by_cases hlt : i < l.length
      · have hw := Aside0.mk (show wrap64 ((i : Int) + 1) = ((i + 1 : Nat) : Int) from (w64 (by omega) (by omega)).trans (by omega))
        have q := ih (i + 1) (by omega) (by omega)
        refine ev_unroll ?_
        simp only [laws_eqSettingS.l0, if_pos (show (i : Int) < (l.length : Int) by omega), if_pos (show (0 : Int) ≤ (i : Int) by omega), laws_eqSetting.f, if_true, Option.bind_some, hw.out]
        exact q
      · exact last i (by omega)
  unfold laws_eqSettingS.f
  simp only [if_true]
  exact key l.length 0 (by omega) (by omega)
theorem bl_cons (a b : UInt8) (x y : List UInt8) : Op.bytesLess (a :: x) (b :: y) = (decide (a < b) || (a == b && Op.bytesLess x y)) := rfl
theorem bl_irrefl : ∀ x : List UInt8, Op.bytesLess x x = false := by
  intro x
  induction x with
  | nil => rfl
  | cons a x ih => rw [bl_cons, ih]; simp
theorem bl_trans : ∀ x y z : List UInt8, Op.bytesLess x y = true → Op.bytesLess y z = true → Op.bytesLess x z = true := by
  intro x
  induction x with
  | nil =>
    intro y z h1 h2
    cases z with
    | nil => cases y <;> cases h2
    | cons c z => rfl
  | cons a x ih =>
    intro y z h1 h2
    cases y with
    | nil => cases h1
    | cons b y =>
      cases z with
      | nil => cases h2
      | cons c z =>
        rw [bl_cons] at h1 h2 ⊢
        simp only [Bool.or_eq_true, Bool.and_eq_true, decide_eq_true_eq, beq_iff_eq] at h1 h2 ⊢
        rcases h1 with h1 | ⟨e1, h1⟩ <;> rcases h2 with h2 | ⟨e2, h2⟩
        · exact .inl (by rw [UInt8.lt_iff_toNat_lt] at h1 h2 ⊢; omega)
        · exact .inl (by rw [← e2]; exact h1)
        · exact .inl (by rw [e1]; exact h2)
        · exact .inr ⟨e1.trans e2, ih y z h1 h2⟩
/-- What SettingsOk says yes to rises. -/
theorem rise_of (l : List S47) (hl : l.length ≤ 1048576) : ∀ (k i : Nat), spec_SettingsOk.l0 k l (i : Int) = some true → ∀ j, i ≤ j → j < l.length → 0 < j → Op.bytesLess (rd_T47 l ((j : Int) - 1)).f0.toList (rd_T47 l (j : Int)).f0.toList = true := by
  intro k
  induction k with
  | zero => intro i h; simp [spec_SettingsOk.l0] at h
  | succ k ih =>
    intro i h j hij hj h0
    have hw := Aside0.mk (show wrap64 ((i : Int) + 1) = ((i + 1 : Nat) : Int) from (w64 (by omega) (by omega)).trans (by omega))
    simp only [spec_SettingsOk.l0, if_pos (show (i : Int) < (l.length : Int) by omega), if_pos (show (0 : Int) ≤ (i : Int) by omega), hw.out] at h
    obtain ⟨t, _, h⟩ := Option.bind_eq_some_iff.mp h
    cases t
    · simp at h
    simp only [if_true] at h
    obtain ⟨t, _, h⟩ := Option.bind_eq_some_iff.mp h
    cases t
    · simp at h
    simp only [if_true] at h
    by_cases hz : (i : Int) > 0
    · have hw2 := Aside0.mk (show wrap64 ((i : Int) - 1) = (i : Int) - 1 from w64 (by omega) (by omega))
      simp only [if_pos hz, hw2.out, if_pos (show (0 : Int) ≤ (i : Int) - 1 by omega), if_pos (show (i : Int) - 1 < (l.length : Int) by omega)] at h
      by_cases hc : Op.bytesLess (rd_T47 l ((i : Int) - 1)).f0.toList (rd_T47 l (i : Int)).f0.toList = true
      · rw [if_pos hc] at h
        by_cases e : j = i
        · subst e; exact hc
        · exact ih (i + 1) h j (by omega) hj h0
      · rw [if_neg hc] at h
        simp at h
    · rw [if_neg hz] at h
      exact ih (i + 1) h j (by omega) hj h0
theorem rise_all (l : List S47) (h : ∀ j : Nat, j < l.length → 0 < j → Op.bytesLess (rd_T47 l ((j : Int) - 1)).f0.toList (rd_T47 l (j : Int)).f0.toList = true) : ∀ i j : Nat, i < j → j < l.length → Op.bytesLess (rd_T47 l (i : Int)).f0.toList (rd_T47 l (j : Int)).f0.toList = true := by
  intro i j
  induction j with
  | zero => intro hij; omega
  | succ j ih =>
    intro hij hj
    have h1 := h (j + 1) hj (by omega)
    rw [show ((j + 1 : Nat) : Int) - 1 = (j : Int) by omega] at h1
    by_cases e : i = j
    · subst e; exact h1
    · exact bl_trans _ _ _ (ih (by omega) (by omega)) h1
theorem rd47_get (l : List S47) (i : Nat) (h : i < l.length) : rd_T47 l (i : Int) = l[i] := by simp [rd_T47, h]
/-- Where the list rises, what the map says of a name is the setting that has it. -/
theorem look_at (l : List S47) (n : ByteArray) (i : Nat) (hi : i < l.length) (hn : l[i].f0 = n) (hu : ∀ j (hj : j < l.length), l[j].f0 = n → j = i) : Hand.look l n = (l[i].f1, true) := by
  unfold Hand.look
  cases h : l.reverse.find? (fun s => decide (s.f0 = n)) with
  | none =>
    have := List.find?_eq_none.mp h l[i] (by simp)
    simp [hn] at this
  | some s =>
    have h1 := List.find?_some h
    have h2 := List.mem_of_find?_eq_some h
    rw [List.mem_reverse] at h2
    obtain ⟨j, hj, rfl⟩ := List.mem_iff_getElem.mp h2
    have h3 := hu j hj (by simpa using h1)
    subst h3
    rfl
theorem look_none (l : List S47) (n : ByteArray) (h : ∀ x ∈ l, x.f0 ≠ n) : Hand.look l n = (⟨#[]⟩, false) := by
  unfold Hand.look
  rw [List.find?_eq_none.mpr]
  intro x hx
  rw [List.mem_reverse] at hx
  simpa using h x hx
theorem tl_eq (a b : ByteArray) : a.toList = b.toList ↔ a = b := by
  constructor
  · intro h
    rw [Lib.toList_data, Lib.toList_data] at h
    exact Hand.bytes_ext h
  · intro h; rw [h]
/-- The first setting of a name. -/
theorem at_ev (l : List S47) (n : ByteArray) (hl : l.length ≤ 1048576) : ∃ t, Ev (fun k => spec_l19At.f k l n) t ∧ ((t = -1 ∧ ∀ x ∈ l, x.f0 ≠ n) ∨ ∃ i : Nat, ∃ hi : i < l.length, t = (i : Int) ∧ l[i].f0 = n) := by
  have key : ∀ d i : Nat, l.length - i ≤ d → i ≤ l.length → (∀ j (hj : j < l.length), j < i → l[j].f0 ≠ n) → ∃ t, Ev (fun k => spec_l19At.l0 k l n (i : Int)) t ∧ ((t = -1 ∧ ∀ x ∈ l, x.f0 ≠ n) ∨ ∃ i : Nat, ∃ hi : i < l.length, t = (i : Int) ∧ l[i].f0 = n) := by
    intro d
    induction d with
    | zero =>
      intro i hd hi hno
      refine ⟨-1, ev_unroll ?_, .inl ⟨rfl, fun x hx => ?_⟩⟩
      · simp only [spec_l19At.l0, if_neg (show ¬ (i : Int) < (l.length : Int) by omega)]
        exact Ev.now _
      · obtain ⟨j, hj, rfl⟩ := List.mem_iff_getElem.mp hx
        exact hno j hj (by omega)
    | succ d ih =>
      intro i hd hi hno
      by_cases hlt : i < l.length
      · have hw := Aside0.mk (show wrap64 ((i : Int) + 1) = ((i + 1 : Nat) : Int) from (w64 (by omega) (by omega)).trans (by omega))
        by_cases hc : l[i].f0 = n
        · refine ⟨(i : Int), ev_unroll ?_, .inr ⟨i, hlt, rfl, hc⟩⟩
          simp only [spec_l19At.l0, if_pos (show (i : Int) < (l.length : Int) by omega), if_pos (show (0 : Int) ≤ (i : Int) by omega), rd47_get l i hlt, if_pos ((tl_eq _ _).mpr hc)]
          exact Ev.now _
        · obtain ⟨t, p, q⟩ := ih (i + 1) (by omega) (by omega) (fun j hj hji => by
            by_cases e : j = i
            · subst e; exact hc
            · exact hno j hj (by omega))
          refine ⟨t, ev_unroll ?_, q⟩
          simp only [spec_l19At.l0, if_pos (show (i : Int) < (l.length : Int) by omega), if_pos (show (0 : Int) ≤ (i : Int) by omega), rd47_get l i hlt, if_neg (fun h => hc ((tl_eq _ _).mp h)), hw.out]
          exact p
      · refine ⟨-1, ev_unroll ?_, .inl ⟨rfl, fun x hx => ?_⟩⟩
        · simp only [spec_l19At.l0, if_neg (show ¬ (i : Int) < (l.length : Int) by omega)]
          exact Ev.now _
        · obtain ⟨j, hj, rfl⟩ := List.mem_iff_getElem.mp hx
          exact hno j hj (by omega)
  exact key l.length 0 (by omega) (by omega) (fun j hj h => by omega)
/-- Both sides of Find19. -/
theorem find_both (l : List S47) (n : ByteArray) (hl : Small l) (hn : n.size ≤ 1048576) : ∃ r, Ev (fun k => spec_Find19.f k l n) r ∧ Ev (fun k => impl_Find19.f k l n) r := by
  obtain ⟨b, p, q⟩ := settings_both l hl
  obtain ⟨t, pt, ht⟩ := at_ev l n hl.1
  have hok : Hand.FindOk l n := ⟨hl.1, fun x hx => by have := hl.2 x hx; unfold maxLen; omega, by unfold maxLen; omega⟩
  cases b
  · refine ⟨(⟨#[]⟩, false), ?_, ?_⟩
    · unfold spec_Find19.f
      refine Ev.bind pt (Ev.bind p ?_)
      simp only [Bool.false_eq_true, if_false]
      exact Ev.now _
    · unfold impl_Find19.f
      simp only [if_pos hok]
      refine Ev.bind q ?_
      simp only [Bool.false_eq_true, if_false]
      exact Ev.now _
  · refine ⟨Hand.look l n, ?_, ?_⟩
    · unfold spec_Find19.f
      refine Ev.bind pt (Ev.bind p ?_)
      simp only [if_true]
      rcases ht with ⟨rfl, hno⟩ | ⟨i, hi, rfl, hc⟩
      · rw [look_none l n hno]
        simp only [if_pos (show (-1 : Int) < 0 by decide)]
        exact Ev.now _
      · obtain ⟨K, hK⟩ := p
        have hr := rise_all l (fun j hj h0 => rise_of l hl.1 K 0 (hK K (Nat.le_refl _)) j (by omega) hj h0)
        have hu : ∀ j (hj : j < l.length), l[j].f0 = n → j = i := by
          intro j hj hjn
          rcases Nat.lt_trichotomy j i with h | h | h
          · have := hr j i h hi
            rw [rd47_get l j hj, rd47_get l i hi, hjn, hc, bl_irrefl] at this
            cases this
          · exact h
          · have := hr i j h hj
            rw [rd47_get l j hj, rd47_get l i hi, hjn, hc, bl_irrefl] at this
            cases this
        rw [look_at l n i hi hc hu]
        simp only [if_neg (show ¬ (i : Int) < 0 by omega), if_pos (show (0 : Int) ≤ (i : Int) by omega), if_pos (show (i : Int) < (l.length : Int) by omega), rd47_get l i hi]
        exact Ev.now _
    · unfold impl_Find19.f
      simp only [if_pos hok]
      refine Ev.bind q ?_
      simp only [if_true]
      exact Ev.now _
def laws_FnExactFind19.Pure : Prop := ∀ (l0 : List S46) (a1 : ByteArray), l0.length ≤ maxLen → (∀ x ∈ l0, x.f0.size ≤ maxLen ∧ x.f1.size ≤ maxLen) → a1.size ≤ 140737488351232 → ∃ k, laws_FnExactFind19.f k l0 a1 = some true
theorem FnExactFind19 : laws_FnExactFind19.Pure := by
  intro l0 a1 hm hs _
  refine Ev.rounds (g := fun k => laws_FnExactFind19.f k l0 a1) ?_
  unfold laws_FnExactFind19.f
  by_cases hn1 : (a1.size : Int) > 1048576
  · simp only [if_pos hn1]
    exact Ev.now _
  simp only [if_neg hn1]
  obtain ⟨v, hv, hv2⟩ := sz_ev l0 hm hs
  refine Ev.bind hv ?_
  by_cases hb : v < 0
  · simp only [if_pos hb]
    exact Ev.now _
  simp only [if_neg hb]
  have hsm := hv2 hb
  have hn : l0.length ≤ 1048576 := by have := hsm.1; rw [List.length_map] at this; exact this
  have ht := toSettingS_ev l0 hn
  obtain ⟨r, p, q⟩ := find_both (l0.map cv) a1 hsm (by omega)
  refine Ev.bind ht (Ev.bind p (Ev.bind ht (Ev.bind q ?_)))
  simp only [if_true, bne_self_eq_false]
  refine ev_unroll ?_
  simp only [laws_FnExactFind19.j0, Bool.false_eq_true, if_false]
  refine Ev.bind ht (Ev.bind (eqSettingS_ev _ hsm.1) ?_)
  simp only [if_true]
  exact Ev.now _

end Go.Proofs.YtjenfcocegbmdaaDoor.Pure
