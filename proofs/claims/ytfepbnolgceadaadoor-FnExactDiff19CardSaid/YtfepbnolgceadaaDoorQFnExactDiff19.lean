/- For every two lists of settings the program's Diff19 answers as the reference's, and both lists stay as they were. -/
import Derived.Test.YtfepbnolgceadaaDoorMFnExactDiff19x17
import Derived.Test.YtfepbnolgceadaaDoorKit
namespace Go.Proofs.YtfepbnolgceadaaDoor.Pure
set_option linter.unusedSimpArgs false
set_option linter.unusedVariables false
set_option linter.unusedSectionVars false
open Go Go.RowKit Go.Proofs.YtfepbnolgceadaaDoor.MFnExactDiff19 Go.Proofs.YtfepbnolgceadaaDoorW.PrintWords Go.Proofs.YtfepbnolgceadaaDoorW.PrintLast Go.Proofs.YtfepbnolgceadaaDoor.Mine

theorem bt_get (s : ByteArray) (i : Nat) (h : i < s.size) : bt s (i : Int) = ((s.get! i).toNat : Int) := by
  unfold bt
  rw [dif_pos (by simpa using h), Utf8W.get!_of_lt s i h]
  simp
theorem l1In_eq (x a b : Int) : spec_l1In.f x a b = some (decide (a ≤ x ∧ x ≤ b)) := by
  unfold spec_l1In.f
  by_cases h : a ≤ x
  · simp [h]
  · simp [h]
theorem spec_letter_eq (x : Int) : spec_l19Letter.f x = some (Hand.letterB x) := by
  unfold spec_l19Letter.f Hand.letterB
  simp only [l1In_eq, Option.bind_some, ge_iff_le]
  by_cases a1 : 65 ≤ x ∧ x ≤ 90
  · simp [a1.1, a1.2]
  by_cases a2 : 97 ≤ x ∧ x ≤ 122
  · simp [show 65 ≤ x by omega, show ¬ x ≤ 90 by omega, a2.1, a2.2]
  have hlow : ∀ (p q : Option Bool), (if 65 ≤ x then (if x ≤ 90 then some true else (if 97 ≤ x then (if x ≤ 122 then some true else p) else p)) else (if 97 ≤ x then (if x ≤ 122 then some true else p) else p)) = p := by
    intro p q
    split
    · rw [if_neg (by omega)]
      split
      · rw [if_neg (by omega)]
      · rfl
    · split
      · rw [if_neg (by omega)]
      · rfl
  refine (hlow _ none).trans ?_
  by_cases a3 : 192 ≤ x ∧ x ≤ 591
  · by_cases a4 : x = 215
    · subst a4; simp
    · by_cases a5 : x = 247
      · subst a5; simp
      · simp [a1, a2, a3, a4, a5]
  by_cases a6 : 913 ≤ x ∧ x ≤ 969
  · have a7 : ¬ (1040 ≤ x ∧ x ≤ 1103) := by omega
    have a8 : ¬ (192 ≤ x ∧ x ≤ 591 ∧ x ≠ 215 ∧ x ≠ 247) := fun h => a3 ⟨h.1, h.2.1⟩
    by_cases a9 : x = 930
    · subst a9; simp
    · simp [a1, a2, a3, a6, a7, a8, a9]
  · have a8 : ¬ (192 ≤ x ∧ x ≤ 591 ∧ x ≠ 215 ∧ x ≠ 247) := fun h => a3 ⟨h.1, h.2.1⟩
    have a9 : ¬ (913 ≤ x ∧ x ≤ 969 ∧ x ≠ 930) := fun h => a6 ⟨h.1, h.2.1⟩
    simp only [decide_eq_false a1, decide_eq_false a2, decide_eq_false a3, decide_eq_false a6, decide_eq_false a8, decide_eq_false a9, Bool.false_eq_true, if_false, Bool.false_or]
/-- A rune as the reference reads it, and as the program does. -/
theorem rune_step (s : ByteArray) (pos : Nat) (h : pos < s.size) (hs : s.size ≤ 140737488351232) :
    (∃ R K : Nat, Utf8.decode s pos = (R, K) ∧ spec_l19Rune.f s (pos : Int) = some ((R : Int), (K : Int)) ∧ 1 ≤ K ∧ K ≤ 2 ∧ pos + K ≤ s.size ∧ R < 2048)
    ∨ (spec_l19Rune.f s (pos : Int) = some (0, 0) ∧ 2048 ≤ (Utf8.decode s pos).1) := by
  have hb := Aside0.mk (bt_get s pos h)
  have hw := Aside0.mk (show wrap64 ((pos : Int) + 1) = ((pos + 1 : Nat) : Int) from (w64 (by omega) (by omega)).trans (by omega))
  have k0 := (s.get! pos).toNat_lt
  have k1 := (s.get! (pos + 1)).toNat_lt
  have hb2 := Aside0.mk (bt_get s (pos + 1))
  have hd := Aside0.mk (Lib.decode_at s pos)
  generalize (s.get! pos).toNat = b0 at hb hd k0
  generalize (s.get! (pos + 1)).toNat = b1 at hb2 hd k1
  generalize (s.get! (pos + 2)).toNat = b2 at hd
  generalize (s.get! (pos + 3)).toNat = b3 at hd
  obtain ⟨n, hn⟩ : ∃ n, s.size = n := ⟨_, rfl⟩
  have hn2 := Aside0.mk hn
  unfold spec_l19Rune.f
  rw [hn]
  rw [hn] at h hs
  clear hn
  rw [if_pos (by omega), if_pos (by omega), hb.out, hw.out]
  have hwb := Aside0.mk (show wrap64 (b0 : Int) = (b0 : Int) from w64 (by omega) (by omega))
  rw [hwb.out]
  by_cases c0 : b0 < 128
  · left
    refine ⟨b0, 1, ?_, ?_, by omega, by omega, by omega, by omega⟩
    · rw [hd.out, Lib.decodeN_ascii _ _ _ _ _ c0]
    · rw [if_pos (by omega)]; rfl
  rw [if_neg (by omega)]
  by_cases c1 : 194 ≤ b0 ∧ b0 ≤ 223 ∧ pos + 1 < n ∧ 128 ≤ b1 ∧ b1 ≤ 191
  · obtain ⟨d0, d1, d2, d3, d4⟩ := c1
    have hb3 := Aside0.mk (hb2.out (by rw [hn2.out]; exact d2))
    have hwb1 := Aside0.mk (show wrap64 (b1 : Int) = (b1 : Int) from w64 (by omega) (by omega))
    left
    refine ⟨(b0 - 192) * 64 + (b1 - 128), 2, ?_, ?_, by omega, by omega, by omega, by omega⟩
    · rw [hd.out, hn2.out]
      unfold Lib.decodeN
      rw [if_neg c0, if_pos ⟨by omega, by omega, by omega⟩, if_pos (by omega), show b0 % 32 * 64 + b1 % 64 = (b0 - 192) * 64 + (b1 - 128) by omega]
    · rw [if_neg (by omega), if_neg (by omega), if_neg (by omega), if_pos (by omega), if_pos (by omega), hb3.out, if_neg (by omega), if_neg (by omega), hwb1.out]
      rw [w64 (x := (b0 : Int) - 192) (by omega) (by omega), w64 (x := ((b0 : Int) - 192) * 64) (by omega) (by omega), w64 (x := ((b0 : Int) - 192) * 64 + (b1 : Int)) (by omega) (by omega), w64 (x := ((b0 : Int) - 192) * 64 + (b1 : Int) - 128) (by omega) (by omega)]
      rw [show ((((b0 - 192) * 64 + (b1 - 128) : Nat) : Nat) : Int) = ((b0 : Int) - 192) * 64 + (b1 : Int) - 128 by omega]
      rfl
  · right
    constructor
    · by_cases e0 : b0 < 194
      · rw [if_pos (by omega)]
      rw [if_neg (by omega)]
      by_cases e1 : 223 < b0
      · rw [if_pos (by omega)]
      rw [if_neg (by omega)]
      by_cases e2 : n ≤ pos + 1
      · rw [if_pos (by omega)]
      have hb3 := Aside0.mk (hb2.out (by rw [hn2.out]; omega))
      rw [if_neg (by omega), if_pos (by omega), if_pos (by omega), hb3.out]
      by_cases e3 : b1 < 128
      · rw [if_pos (by omega)]
      rw [if_neg (by omega), if_pos (by omega)]
    · rw [hd.out, hn2.out]
      have hsh := Lib.decodeN_shape (n - pos) b0 b1 b2 b3
      clear hd hb hw hb2 hn2 hwb
      rcases hsh with ⟨x, _⟩ | ⟨x1, x2, x3, x4, _⟩ | ⟨_, _, _, _, x, _, e⟩ | ⟨_, _, _, _, _, x, _, e⟩ | e
      · omega
      · exfalso; apply c1; omega
      · rw [e]; exact x
      · rw [e]; exact Nat.le_trans (by omega) x
      · rw [e]; simp
theorem high_rune (R : Nat) (h : 2048 ≤ R) (f : Bool) : Hand.runeB (R : Int) f = false := by
  unfold Hand.runeB Hand.letterB
  rw [Hand.sign_high _ (by omega), decide_eq_false (by omega), decide_eq_false (by omega), decide_eq_false (by omega), decide_eq_false (by omega), decide_eq_false (by omega)]
  simp
theorem word_from (s : ByteArray) (hs : s.size ≤ 140737488351232) : ∀ (d pos many : Nat), s.size - pos ≤ d → pos ≤ s.size → many ≤ pos → (many = 0 ↔ pos = 0) →
    Ev (fun k => spec_WordOk.l0 k s (many : Int) (pos : Int)) (Lib.validD (s.data.toList.drop pos) && decide (1 ≤ many + Lib.runeCountFrom s d pos ∧ many + Lib.runeCountFrom s d pos ≤ 16) && Hand.runesFrom s d pos) := by
  have last : ∀ (d pos many : Nat), pos = s.size → Ev (fun k => spec_WordOk.l0 k s (many : Int) (pos : Int)) (Lib.validD (s.data.toList.drop pos) && decide (1 ≤ many + Lib.runeCountFrom s d pos ∧ many + Lib.runeCountFrom s d pos ≤ 16) && Hand.runesFrom s d pos) := by
    intro d pos many hp
    refine ev_unroll ?_
    simp only [spec_WordOk.l0, if_neg (show ¬ (pos : Int) < (s.size : Int) by omega), l1In_eq, Option.bind_some]
    rw [Lib.runeCountFrom_end s d pos (by omega), Hand.runesFrom_end s d pos (by omega), List.drop_eq_nil_of_le (by rw [hp]; exact Nat.le_of_eq (Lib.size_eq s).symm)]
    refine ev_eq (Ev.now _) ?_
    have e : Lib.validD [] = true := rfl
    rw [e, Bool.true_and, Bool.and_true, Nat.add_zero, decide_eq_decide]
    omega
  intro d
  induction d with
  | zero => exact fun pos many hd hp _ _ => last 0 pos many (by omega)
  | succ d ih =>
    intro pos many hd hp hm hz
    by_cases hlt : pos < s.size
    · have hl : s.data.toList.length = s.size := (Lib.size_eq s).symm
      have hne : s.data.toList.drop pos ≠ [] := by
        intro h
        have := congrArg List.length h
        rw [List.length_drop, List.length_nil] at this
        omega
      rcases rune_step s pos hlt hs with ⟨R, K, e1, e2, p1, p2, p3, p4⟩ | ⟨e2, p1⟩
      · have hv : Lib.validD (s.data.toList.drop pos) = Lib.validD (s.data.toList.drop (pos + K)) := by
          rw [Lib.validD_step _ hne, Lib.decodeL_drop, e1]
          simp only
          rw [if_neg (by omega), List.drop_drop]
        have hc : Lib.runeCountFrom s (d + 1) pos = 1 + Lib.runeCountFrom s d (pos + K) := by
          simp only [Lib.runeCountFrom]
          rw [if_pos hlt, e1]
        have hr : Hand.runesFrom s (d + 1) pos = (Hand.runeB (R : Int) (pos == 0) && Hand.runesFrom s d (pos + K)) := by
          simp only [Hand.runesFrom]
          rw [if_pos hlt, e1]
        have q := ih (pos + K) (many + 1) (by omega) (by omega) (by omega) (by omega)
        rw [hv, hc, hr]
        have ew1 := Aside0.mk (show wrap64 ((many : Int) + 1) = ((many + 1 : Nat) : Int) from (w64 (by omega) (by omega)).trans (by omega))
        have ew2 := Aside0.mk (show wrap64 ((pos : Int) + (K : Int)) = ((pos + K : Nat) : Int) from (w64 (by omega) (by omega)).trans (by omega))
        have q2 : Hand.runeB (R : Int) (pos == 0) = true → Ev (fun k => spec_WordOk.l0 k s (wrap64 ((many : Int) + 1)) (wrap64 ((pos : Int) + (K : Int)))) (Lib.validD (s.data.toList.drop (pos + K)) && decide (1 ≤ many + (1 + Lib.runeCountFrom s d (pos + K)) ∧ many + (1 + Lib.runeCountFrom s d (pos + K)) ≤ 16) && (Hand.runeB (R : Int) (pos == 0) && Hand.runesFrom s d (pos + K))) := by
          intro h
          rw [ew1.out, ew2.out, h, Bool.true_and, show many + (1 + Lib.runeCountFrom s d (pos + K)) = many + 1 + Lib.runeCountFrom s d (pos + K) by omega]
          exact q
        have q3 : Hand.runeB (R : Int) (pos == 0) = false → false = (Lib.validD (s.data.toList.drop (pos + K)) && decide (1 ≤ many + (1 + Lib.runeCountFrom s d (pos + K)) ∧ many + (1 + Lib.runeCountFrom s d (pos + K)) ≤ 16) && (Hand.runeB (R : Int) (pos == 0) && Hand.runesFrom s d (pos + K))) := by
          intro h
          rw [h, Bool.false_and, Bool.and_false]
        refine ev_unroll ?_
        simp only [spec_WordOk.l0, if_pos (show (pos : Int) < (s.size : Int) by omega), e2, Option.bind_some, if_neg (show ¬ (K : Int) = 0 by omega), spec_letter_eq]
        cases hL : Hand.letterB (R : Int)
        · simp only [Bool.false_eq_true, if_false]
          by_cases h0 : many = 0
          · have h1 : pos = 0 := hz.1 h0
            have hB : Hand.runeB (R : Int) (pos == 0) = false := by unfold Hand.runeB; rw [hL, h1]; rfl
            simp only [if_pos (show (many : Int) = 0 by omega)]
            exact ev_eq (Ev.now _) (q3 hB)
          · have h1 : (pos == 0) = false := beq_eq_false_iff_ne.mpr (fun h => h0 (hz.2 h))
            have hB : Hand.runeB (R : Int) (pos == 0) = Hand.signB (R : Int) := by unfold Hand.runeB; rw [hL, h1]; rfl
            simp only [if_neg (show ¬ (many : Int) = 0 by omega)]
            by_cases s1 : (R : Int) = 45
            · simp only [if_pos s1]; exact q2 (by rw [hB, s1]; rfl)
            simp only [if_neg s1]
            by_cases s2 : (R : Int) = 95
            · simp only [if_pos s2]; exact q2 (by rw [hB, s2]; rfl)
            simp only [if_neg s2]
            by_cases s3 : (R : Int) = 46
            · simp only [if_pos s3]; exact q2 (by rw [hB, s3]; rfl)
            simp only [if_neg s3, l1In_eq, Option.bind_some]
            by_cases s4 : 48 ≤ (R : Int) ∧ (R : Int) ≤ 57
            · simp only [decide_eq_true s4, if_true]
              exact q2 (by rw [hB]; unfold Hand.signB; rw [decide_eq_true s4]; rfl)
            · simp only [decide_eq_false s4, Bool.false_eq_true, if_false]
              refine ev_eq (Ev.now _) (q3 ?_)
              rw [hB]
              unfold Hand.signB
              rw [decide_eq_false s4, decide_eq_false s1, decide_eq_false s2, decide_eq_false s3]
              rfl
        · simp only [if_true]
          exact q2 (by unfold Hand.runeB; rw [hL]; rfl)
      · have hr : Hand.runesFrom s (d + 1) pos = false := by
          simp only [Hand.runesFrom]
          rw [if_pos hlt, high_rune _ p1, Bool.false_and]
        rw [hr, Bool.and_false]
        refine ev_unroll ?_
        simp only [spec_WordOk.l0, if_pos (show (pos : Int) < (s.size : Int) by omega), e2, Option.bind_some, if_true]
        exact Ev.now _
    · exact last (d + 1) pos many (by omega)
theorem word_ev (s : ByteArray) (hs : s.size ≤ 140737488351232) : Ev (fun k => spec_WordOk.f k s) (Hand.wordB s) := by
  have h := word_from s hs s.size 0 0 (by omega) (by omega) (by omega) (by omega)
  simp only [Nat.zero_add, List.drop_zero] at h
  exact h
theorem impl_word_ev (s : ByteArray) (hs : s.size ≤ 140737488351232) : Ev (fun k => impl_WordOk.f k s) (Hand.wordB s) := by
  refine ⟨0, fun k _ => ?_⟩
  simp only [impl_WordOk.f, if_pos hs]
theorem digit_byte (b : Nat) (h : b < 256) : Hand.digitB (UInt8.ofNat b) = decide (48 ≤ b ∧ b ≤ 57) := by
  unfold Hand.digitB
  rw [UInt8.toNat_ofNat', Nat.mod_eq_of_lt h]
theorem value_from (s : ByteArray) (hs : s.size ≤ 140737488351232) : ∀ (d pos : Nat), s.size - pos ≤ d → pos ≤ s.size →
    Ev (fun k => spec_l19Value.l0 k s (pos : Int)) (decide (1 ≤ s.size ∧ s.size ≤ 9) && (s.data.toList.drop pos).all Hand.digitB) := by
  have last : ∀ pos : Nat, pos = s.size → Ev (fun k => spec_l19Value.l0 k s (pos : Int)) (decide (1 ≤ s.size ∧ s.size ≤ 9) && (s.data.toList.drop pos).all Hand.digitB) := by
    intro pos hp
    refine ev_unroll ?_
    simp only [spec_l19Value.l0, if_neg (show ¬ (pos : Int) < (s.size : Int) by omega), l1In_eq, Option.bind_some]
    refine ev_eq (Ev.now _) ?_
    rw [List.drop_eq_nil_of_le (by rw [hp]; exact Nat.le_of_eq (Lib.size_eq s).symm), List.all_nil, Bool.and_true, decide_eq_decide]
    omega
  intro d
  induction d with
  | zero => exact fun pos hd hp => last pos (by omega)
  | succ d ih =>
    intro pos hd hp
    by_cases hlt : pos < s.size
    · have hl : s.data.toList.length = s.size := (Lib.size_eq s).symm
      have q := ih (pos + 1) (by omega) (by omega)
      have hb := Aside0.mk (bt_get s pos hlt)
      have hw := Aside0.mk (show wrap64 ((pos : Int) + 1) = ((pos + 1 : Nat) : Int) from (w64 (by omega) (by omega)).trans (by omega))
      have k0 := (s.get! pos).toNat_lt
      have e1 : s.data.toList.drop pos = s.get! pos :: s.data.toList.drop (pos + 1) := by
        rw [List.drop_eq_getElem_cons (show pos < s.data.toList.length by omega)]
        congr 1
        rw [Utf8W.get!_of_lt s pos hlt]
        rfl
      have e2 : Hand.digitB (s.get! pos) = decide (48 ≤ (s.get! pos).toNat ∧ (s.get! pos).toNat ≤ 57) := rfl
      rw [e1, List.all_cons, e2]
      generalize (s.get! pos).toNat = b0 at hb k0
      refine ev_unroll ?_
      simp only [spec_l19Value.l0, if_pos (show (pos : Int) < (s.size : Int) by omega), if_pos (show (0 : Int) ≤ (pos : Int) by omega), hb.out, hw.out]
      by_cases c0 : (b0 : Int) < 48
      · simp only [if_pos c0]
        refine ev_eq (Ev.now _) ?_
        rw [decide_eq_false (show ¬ (48 ≤ b0 ∧ b0 ≤ 57) by omega), Bool.false_and, Bool.and_false]
      simp only [if_neg c0]
      by_cases c1 : (b0 : Int) > 57
      · simp only [if_pos c1]
        refine ev_eq (Ev.now _) ?_
        rw [decide_eq_false (show ¬ (48 ≤ b0 ∧ b0 ≤ 57) by omega), Bool.false_and, Bool.and_false]
      simp only [if_neg c1]
      rw [decide_eq_true (show 48 ≤ b0 ∧ b0 ≤ 57 by omega), Bool.true_and]
      exact q
    · exact last pos (by omega)
theorem value_ev (s : ByteArray) (hs : s.size ≤ 140737488351232) : Ev (fun k => spec_l19Value.f k s) (Hand.valueB s) := by
  unfold spec_l19Value.f Hand.valueB
  refine Ev.bind (word_ev s hs) ?_
  cases hw : Hand.wordB s
  · simp only [Bool.false_eq_true, if_false, Bool.false_or]
    have h := value_from s hs s.size 0 (by omega) (by omega)
    simp only [List.drop_zero] at h
    exact h
  · simp only [if_true, Bool.true_or]
    exact Ev.now _
theorem impl_value_ev (s : ByteArray) (hs : s.size ≤ 140737488351232) : Ev (fun k => impl_valueOk.f k s) (Hand.valueB s) := by
  refine ⟨0, fun k _ => ?_⟩
  simp only [impl_valueOk.f, if_pos hs]
/-- The same setting, as the reference's type has it. -/
def cv (x : S42) : S38 := ⟨x.f0, x.f1⟩
def Small (l : List S38) : Prop := l.length ≤ 1048576 ∧ ∀ x ∈ l, x.f0.size ≤ 1048576 ∧ x.f1.size ≤ 1048576
theorem rd38_mem (l : List S38) (i : Nat) (h : i < l.length) : rd_T38 l (i : Int) ∈ l := by
  have e : rd_T38 l (i : Int) = l[i] := by simp [rd_T38, h]
  rw [e]; exact List.getElem_mem h
/-- Both sides of SettingsOk. -/
theorem settings_from (l : List S38) (hl : Small l) : ∀ (d i : Nat), l.length - i ≤ d → i ≤ l.length →
    ∃ b, Ev (fun k => spec_SettingsOk.l0 k l (i : Int)) b ∧ Ev (fun k => impl_SettingsOk.l0 k l l (l.length : Int) (i : Int)) b := by
  have hn := hl.1
  have last : ∀ i : Nat, i = l.length → ∃ b, Ev (fun k => spec_SettingsOk.l0 k l (i : Int)) b ∧ Ev (fun k => impl_SettingsOk.l0 k l l (l.length : Int) (i : Int)) b := by
    intro i hi
    refine ⟨decide ((l.length : Int) ≤ 40), ev_unroll ?_, ev_unroll ?_⟩
    · simp only [spec_SettingsOk.l0, if_neg (show ¬ (i : Int) < (l.length : Int) by omega)]
      exact Ev.now _
    · simp only [impl_SettingsOk.l0, if_neg (show ¬ (i : Int) < (l.length : Int) by omega)]
      exact Ev.now _
  intro d
  induction d with
  | zero => exact fun i hd hi => last i (by omega)
  | succ d ih =>
    intro i hd hi
    by_cases hlt : i < l.length
    · obtain ⟨s0, s1⟩ := hl.2 _ (rd38_mem l i hlt)
      have hw := Aside0.mk (show wrap64 ((i : Int) + 1) = ((i + 1 : Nat) : Int) from (w64 (by omega) (by omega)).trans (by omega))
      have hw2 := Aside0.mk (show wrap64 ((i : Int) - 1) = (i : Int) - 1 from w64 (by omega) (by omega))
      obtain ⟨b, p, q⟩ := ih (i + 1) (by omega) (by omega)
      have hi1 : (i : Int) < (l.length : Int) := by omega
      have hi0 : (0 : Int) ≤ (i : Int) := by omega
      have w1 := word_ev (rd_T38 l (i : Int)).f0 (by omega)
      have w2 := impl_word_ev (rd_T38 l (i : Int)).f0 (by omega)
      have v1 := value_ev (rd_T38 l (i : Int)).f1 (by omega)
      have v2 := impl_value_ev (rd_T38 l (i : Int)).f1 (by omega)
      cases hW : Hand.wordB (rd_T38 l (i : Int)).f0
      · rw [hW] at w1 w2
        refine ⟨false, ev_unroll ?_, ev_unroll ?_⟩
        · simp only [spec_SettingsOk.l0, if_pos hi1, if_pos hi0]
          refine Ev.bind w1 ?_
          simp only [Bool.false_eq_true, if_false]
          exact Ev.now _
        · simp only [impl_SettingsOk.l0, if_pos hi1, if_pos hi0]
          refine Ev.bind w2 ?_
          simp only [Bool.false_eq_true, if_false]
          exact Ev.now _
      rw [hW] at w1 w2
      cases hV : Hand.valueB (rd_T38 l (i : Int)).f1
      · rw [hV] at v1 v2
        refine ⟨false, ev_unroll ?_, ev_unroll ?_⟩
        · simp only [spec_SettingsOk.l0, if_pos hi1, if_pos hi0]
          refine Ev.bind w1 ?_
          simp only [if_true]
          refine Ev.bind v1 ?_
          simp only [Bool.false_eq_true, if_false]
          exact Ev.now _
        · simp only [impl_SettingsOk.l0, if_pos hi1, if_pos hi0]
          refine Ev.bind w2 ?_
          simp only [if_true]
          refine Ev.bind v2 ?_
          simp only [Bool.false_eq_true, if_false]
          exact Ev.now _
      rw [hV] at v1 v2
      by_cases hz : (i : Int) > 0
      · have hj : (0 : Int) ≤ (i : Int) - 1 := by omega
        have hj2 : (i : Int) - 1 < (l.length : Int) := by omega
        by_cases hc : Op.bytesLess (rd_T38 l ((i : Int) - 1)).f0.toList (rd_T38 l (i : Int)).f0.toList = true
        · refine ⟨b, ev_unroll ?_, ev_unroll ?_⟩
          · simp only [spec_SettingsOk.l0, if_pos hi1, if_pos hi0]
            refine Ev.bind w1 ?_
            simp only [if_true]
            refine Ev.bind v1 ?_
            simp only [if_true, if_pos hz, hw2.out, if_pos hj, if_pos hj2, if_pos hc, hw.out]
            exact p
          · simp only [impl_SettingsOk.l0, if_pos hi1, if_pos hi0]
            refine Ev.bind w2 ?_
            simp only [if_true]
            refine Ev.bind v2 ?_
            simp only [if_true, if_pos hz, hw2.out, if_pos hj, if_pos hj2, if_pos hc, hw.out]
            exact q
        · refine ⟨false, ev_unroll ?_, ev_unroll ?_⟩
          · simp only [spec_SettingsOk.l0, if_pos hi1, if_pos hi0]
            refine Ev.bind w1 ?_
            simp only [if_true]
            refine Ev.bind v1 ?_
            simp only [if_true, if_pos hz, hw2.out, if_pos hj, if_pos hj2, if_neg hc]
            exact Ev.now _
          · simp only [impl_SettingsOk.l0, if_pos hi1, if_pos hi0]
            refine Ev.bind w2 ?_
            simp only [if_true]
            refine Ev.bind v2 ?_
            simp only [if_true, if_pos hz, hw2.out, if_pos hj, if_pos hj2, if_neg hc]
            exact Ev.now _
      · refine ⟨b, ev_unroll ?_, ev_unroll ?_⟩
        · simp only [spec_SettingsOk.l0, if_pos hi1, if_pos hi0]
          refine Ev.bind w1 ?_
          simp only [if_true]
          refine Ev.bind v1 ?_
          simp only [if_true, if_neg hz, hw.out]
          exact p
        · simp only [impl_SettingsOk.l0, if_pos hi1, if_pos hi0]
          refine Ev.bind w2 ?_
          simp only [if_true]
          refine Ev.bind v2 ?_
          simp only [if_true, if_neg hz, hw.out]
          exact q
    · exact last i (by omega)
theorem settings_both (l : List S38) (hl : Small l) : ∃ b, Ev (fun k => spec_SettingsOk.f k l) b ∧ Ev (fun k => impl_SettingsOk.f k l) b :=
  settings_from l hl l.length 0 (by omega) (by omega)
theorem szSetting_some (a b : ByteArray) (x : Int) (ha : a.size ≤ 9223372036854775807) (hb : b.size ≤ 9223372036854775807) (x0 : 0 ≤ x) (x1 : x ≤ 1048576) :
    ∃ v, laws_szSetting.f a b x = some v ∧ (v < 0 ∨ (0 ≤ v ∧ v ≤ 1048576 ∧ a.size ≤ 1048576 ∧ b.size ≤ 1048576)) := by
  have h1 := Aside0.mk (show wrap64 (x - (a.size : Int)) = x - (a.size : Int) from w64 (by omega) (by omega))
  unfold laws_szSetting.f
  rw [h1.out]
  by_cases c : x - (a.size : Int) < 0
  · exact ⟨-1, by rw [if_pos c], .inl (by decide)⟩
  · have h2 := Aside0.mk (show wrap64 (x - (a.size : Int) - (b.size : Int)) = x - (a.size : Int) - (b.size : Int) from w64 (by omega) (by omega))
    rw [if_neg c, h2.out]
    by_cases c2 : x - (a.size : Int) - (b.size : Int) < 0
    · exact ⟨-1, by rw [if_pos c2], .inl (by decide)⟩
    · exact ⟨_, by rw [if_neg c2], .inr ⟨by omega, by omega, by omega, by omega⟩⟩
/-- What comes in is small, or the law says true at once. -/
theorem sz_ev (l : List S42) (hm : l.length ≤ 9223372036854775807) (hs : ∀ x ∈ l, x.f0.size ≤ 9223372036854775807 ∧ x.f1.size ≤ 9223372036854775807) : ∃ v, Ev (fun k => laws_szSettingS.f k l 1048576) v ∧ (¬ v < 0 → Small (l.map cv)) := by
  have key : ∀ (d i : Nat) (x : Int), l.length - i ≤ d → i ≤ l.length → l.length ≤ 1048576 → 0 ≤ x → x ≤ 1048576 → ∃ v, Ev (fun k => laws_szSettingS.l0 k l x (i : Int)) v ∧ (¬ v < 0 → ∀ y ∈ l.drop i, y.f0.size ≤ 1048576 ∧ y.f1.size ≤ 1048576) := by
    have last : ∀ (i : Nat) (x : Int), i = l.length → ∃ v, Ev (fun k => laws_szSettingS.l0 k l x (i : Int)) v ∧ (¬ v < 0 → ∀ y ∈ l.drop i, y.f0.size ≤ 1048576 ∧ y.f1.size ≤ 1048576) := by
      intro i x hi
      refine ⟨x, ev_unroll ?_, fun _ y hy => ?_⟩
      · simp only [laws_szSettingS.l0, if_neg (show ¬ (i : Int) < (l.length : Int) by omega)]
        exact Ev.now _
      · rw [hi, List.drop_length] at hy; cases hy
    intro d
    induction d with
    | zero => exact fun i x hd hi _ _ _ => last i x (by omega)
    | succ d ih =>
      intro i x hd hi hn hx0 hx1
      by_cases hlt : i < l.length
      · have e1 : rd_T42 l (i : Int) = l[i] := by simp [rd_T42, hlt]
        obtain ⟨sa, sb⟩ := hs _ (List.getElem_mem hlt)
        have hw := Aside0.mk (show wrap64 ((i : Int) + 1) = ((i + 1 : Nat) : Int) from (w64 (by omega) (by omega)).trans (by omega))
        obtain ⟨v, ev, hv⟩ := szSetting_some l[i].f0 l[i].f1 x sa sb hx0 hx1
        rcases hv with hv | ⟨v0, v1, s0, s1⟩
        · refine ⟨-1, ev_unroll ?_, fun h => absurd (by decide) h⟩
          simp only [laws_szSettingS.l0, if_pos (show (i : Int) < (l.length : Int) by omega), if_pos (show (0 : Int) ≤ (i : Int) by omega), e1, ev, Option.bind_some, if_pos hv]
          exact Ev.now _
        · obtain ⟨z, q, hz⟩ := ih (i + 1) v (by omega) (by omega) hn v0 v1
          refine ⟨z, ev_unroll ?_, fun h y hy => ?_⟩
          · simp only [laws_szSettingS.l0, if_pos (show (i : Int) < (l.length : Int) by omega), if_pos (show (0 : Int) ≤ (i : Int) by omega), e1, ev, Option.bind_some, if_neg (show ¬ v < 0 by omega), hw.out]
            exact q
          · rw [List.drop_eq_getElem_cons hlt] at hy
            rcases List.mem_cons.1 hy with rfl | hy
            · exact ⟨s0, s1⟩
            · exact hz h y hy
      · exact last i x (by omega)
  unfold laws_szSettingS.f
  rw [w64 (x := 1048576 - (l.length : Int)) (by omega) (by omega)]
  by_cases h0 : 1048576 - (l.length : Int) < 0
  · refine ⟨-1, ?_, fun h => absurd (by decide) h⟩
    simp only [if_pos h0]
    exact Ev.now _
  · obtain ⟨v, q, hv⟩ := key l.length 0 (1048576 - (l.length : Int)) (by omega) (by omega) (by omega) (by omega) (by omega)
    refine ⟨v, ?_, fun h => ⟨by rw [List.length_map]; omega, fun y hy => ?_⟩⟩
    · simp only [if_neg h0]
      exact q
    · obtain ⟨z, hz, rfl⟩ := List.mem_map.1 hy
      exact hv h z (by simpa using hz)
/-- A copy. -/
theorem toSettingS_ev (l : List S42) (hn : l.length ≤ 1048576) : Ev (fun k => laws_toSettingS.f k l) (l.map cv) := by
  have key : ∀ (d i : Nat) (m : List S38), l.length - i ≤ d → i ≤ l.length → m.length = l.length → m.take i = (l.map cv).take i → Ev (fun k => laws_toSettingS.l0 k l m (i : Int)) (l.map cv) := by
    have last : ∀ (i : Nat) (m : List S38), i = l.length → m.length = l.length → m.take i = (l.map cv).take i → Ev (fun k => laws_toSettingS.l0 k l m (i : Int)) (l.map cv) := by
      intro i m hi hm ht
      refine ev_unroll ?_
      simp only [laws_toSettingS.l0, if_neg (show ¬ (i : Int) < (l.length : Int) by omega)]
      refine ev_eq (Ev.now _) ?_
      rw [List.take_of_length_le (by omega), List.take_of_length_le (by rw [List.length_map]; omega)] at ht
      exact ht
    intro d
    induction d with
    | zero => exact fun i m hd hi hm ht => last i m (by omega) hm ht
    | succ d ih =>
      intro i m hd hi hm ht
      by_cases hlt : i < l.length
      · have e1 : rd_T42 l (i : Int) = l[i] := by simp [rd_T42, hlt]
        have hw := Aside0.mk (show wrap64 ((i : Int) + 1) = ((i + 1 : Nat) : Int) from (w64 (by omega) (by omega)).trans (by omega))
        have e2 : (⟨l[i].f0, l[i].f1⟩ : S38) = (l.map cv).getD i z38 := by simp [cv, hlt]
        have q := ih (i + 1) (m.set i ((l.map cv).getD i z38)) (by omega) (by omega) (by simpa using hm) (take_set_succ z38 (by rw [List.length_map]; exact hm) ht (by rw [List.length_map]; exact hlt))
        refine ev_unroll ?_
        simp only [laws_toSettingS.l0, if_pos (show (i : Int) < (l.length : Int) by omega), if_pos (show (0 : Int) ≤ (i : Int) by omega), e1, laws_toSetting.f, Option.bind_some, if_pos (show (i : Int) < (m.length : Int) by omega), Int.toNat_natCast, e2, hw.out]
        exact q
      · exact last i m (by omega) hm ht
  unfold laws_toSettingS.f
  simp only [if_pos (show (0 : Int) ≤ (l.length : Int) by omega), Int.toNat_natCast, if_pos (show l.length ≤ 8796093022208 by omega)]
  exact key l.length 0 _ (by omega) (by omega) (by simp) (by simp)
theorem eqSettingS_ev (l : List S38) (hn : l.length ≤ 1048576) : Ev (fun k => laws_eqSettingS.f k l l) true := by
  have key : ∀ (d i : Nat), l.length - i ≤ d → i ≤ l.length → Ev (fun k => laws_eqSettingS.l0 k l l (i : Int)) true := by
    have last : ∀ i : Nat, i = l.length → Ev (fun k => laws_eqSettingS.l0 k l l (i : Int)) true := by
      intro i hi
      refine ev_unroll ?_
      simp only [laws_eqSettingS.l0, if_neg (show ¬ (i : Int) < (l.length : Int) by omega)]
      exact Ev.now _
    intro d
    induction d with
    | zero => exact fun i hd hi => last i (by omega)
    | succ d ih =>
      intro i hd hi
      by_cases hlt : i < l.length
      · have hw := Aside0.mk (show wrap64 ((i : Int) + 1) = ((i + 1 : Nat) : Int) from (w64 (by omega) (by omega)).trans (by omega))
        have q := ih (i + 1) (by omega) (by omega)
        refine ev_unroll ?_
        simp only [laws_eqSettingS.l0, if_pos (show (i : Int) < (l.length : Int) by omega), if_pos (show (0 : Int) ≤ (i : Int) by omega), laws_eqSetting.f, if_true, Option.bind_some, hw.out]
        exact q
      · exact last i (by omega)
  unfold laws_eqSettingS.f
  simp only [if_true]
  exact key l.length 0 (by omega) (by omega)
theorem bl_cons (a b : UInt8) (x y : List UInt8) : Op.bytesLess (a :: x) (b :: y) = (decide (a < b) || (a == b && Op.bytesLess x y)) := rfl
theorem bl_irrefl : ∀ x : List UInt8, Op.bytesLess x x = false := by
  intro x
  induction x with
  | nil => rfl
  | cons a x ih => rw [bl_cons, ih]; simp
theorem bl_trans : ∀ x y z : List UInt8, Op.bytesLess x y = true → Op.bytesLess y z = true → Op.bytesLess x z = true := by
  intro x
  induction x with
  | nil =>
    intro y z h1 h2
    cases z with
    | nil => cases y <;> cases h2
    | cons c z => rfl
  | cons a x ih =>
    intro y z h1 h2
    cases y with
    | nil => cases h1
    | cons b y =>
      cases z with
      | nil => cases h2
      | cons c z =>
        rw [bl_cons] at h1 h2 ⊢
        simp only [Bool.or_eq_true, Bool.and_eq_true, decide_eq_true_eq, beq_iff_eq] at h1 h2 ⊢
        rcases h1 with h1 | ⟨e1, h1⟩ <;> rcases h2 with h2 | ⟨e2, h2⟩
        · exact .inl (by rw [UInt8.lt_iff_toNat_lt] at h1 h2 ⊢; omega)
        · exact .inl (by rw [← e2]; exact h1)
        · exact .inl (by rw [e1]; exact h2)
        · exact .inr ⟨e1.trans e2, ih y z h1 h2⟩
/-- What SettingsOk says yes to rises. -/
theorem rise_of (l : List S38) (hl : l.length ≤ 1048576) : ∀ (k i : Nat), spec_SettingsOk.l0 k l (i : Int) = some true → ∀ j, i ≤ j → j < l.length → 0 < j → Op.bytesLess (rd_T38 l ((j : Int) - 1)).f0.toList (rd_T38 l (j : Int)).f0.toList = true := by
  intro k
  induction k with
  | zero => intro i h; simp [spec_SettingsOk.l0] at h
  | succ k ih =>
    intro i h j hij hj h0
    have hw := Aside0.mk (show wrap64 ((i : Int) + 1) = ((i + 1 : Nat) : Int) from (w64 (by omega) (by omega)).trans (by omega))
    simp only [spec_SettingsOk.l0, if_pos (show (i : Int) < (l.length : Int) by omega), if_pos (show (0 : Int) ≤ (i : Int) by omega), hw.out] at h
    obtain ⟨t, _, h⟩ := Option.bind_eq_some_iff.mp h
    cases t
    · simp at h
    simp only [if_true] at h
    obtain ⟨t, _, h⟩ := Option.bind_eq_some_iff.mp h
    cases t
    · simp at h
    simp only [if_true] at h
    by_cases hz : (i : Int) > 0
    · have hw2 := Aside0.mk (show wrap64 ((i : Int) - 1) = (i : Int) - 1 from w64 (by omega) (by omega))
      simp only [if_pos hz, hw2.out, if_pos (show (0 : Int) ≤ (i : Int) - 1 by omega), if_pos (show (i : Int) - 1 < (l.length : Int) by omega)] at h
      by_cases hc : Op.bytesLess (rd_T38 l ((i : Int) - 1)).f0.toList (rd_T38 l (i : Int)).f0.toList = true
      · rw [if_pos hc] at h
        by_cases e : j = i
        · subst e; exact hc
        · exact ih (i + 1) h j (by omega) hj h0
      · rw [if_neg hc] at h
        simp at h
    · rw [if_neg hz] at h
      exact ih (i + 1) h j (by omega) hj h0
theorem rise_all (l : List S38) (h : ∀ j : Nat, j < l.length → 0 < j → Op.bytesLess (rd_T38 l ((j : Int) - 1)).f0.toList (rd_T38 l (j : Int)).f0.toList = true) : ∀ i j : Nat, i < j → j < l.length → Op.bytesLess (rd_T38 l (i : Int)).f0.toList (rd_T38 l (j : Int)).f0.toList = true := by
  intro i j
  induction j with
  | zero => intro hij; omega
  | succ j ih =>
    intro hij hj
    have h1 := h (j + 1) hj (by omega)
    rw [show ((j + 1 : Nat) : Int) - 1 = (j : Int) by omega] at h1
    by_cases e : i = j
    · subst e; exact h1
    · exact bl_trans _ _ _ (ih (by omega) (by omega)) h1
theorem rd38_get (l : List S38) (i : Nat) (h : i < l.length) : rd_T38 l (i : Int) = l[i] := by simp [rd_T38, h]
/-- Where the list rises, what the map says of a name is the setting that has it. -/
theorem look_at (l : List S38) (n : ByteArray) (i : Nat) (hi : i < l.length) (hn : l[i].f0 = n) (hu : ∀ j (hj : j < l.length), l[j].f0 = n → j = i) : Hand.look l n = (l[i].f1, true) := by
  unfold Hand.look
  cases h : l.reverse.find? (fun s => decide (s.f0 = n)) with
  | none =>
    have := List.find?_eq_none.mp h l[i] (by simp)
    simp [hn] at this
  | some s =>
    have h1 := List.find?_some h
    have h2 := List.mem_of_find?_eq_some h
    rw [List.mem_reverse] at h2
    obtain ⟨j, hj, rfl⟩ := List.mem_iff_getElem.mp h2
    have h3 := hu j hj (by simpa using h1)
    subst h3
    rfl
theorem look_none (l : List S38) (n : ByteArray) (h : ∀ x ∈ l, x.f0 ≠ n) : Hand.look l n = (⟨#[]⟩, false) := by
  unfold Hand.look
  rw [List.find?_eq_none.mpr]
  intro x hx
  rw [List.mem_reverse] at hx
  simpa using h x hx
theorem tl_eq (a b : ByteArray) : a.toList = b.toList ↔ a = b := by
  constructor
  · intro h
    rw [Lib.toList_data, Lib.toList_data] at h
    exact Hand.bytes_ext h
  · intro h; rw [h]
/-- What comes in is small, or the law says true at once. -/
theorem sz2_ev (l : List S42) (X : Int) (X0 : 0 ≤ X) (X1 : X ≤ 1048576) (hm : l.length ≤ 9223372036854775807) (hs : ∀ x ∈ l, x.f0.size ≤ 9223372036854775807 ∧ x.f1.size ≤ 9223372036854775807) : ∃ v, Ev (fun k => laws_szSettingS.f k l X) v ∧ (¬ v < 0 → Small (l.map cv) ∧ v ≤ 1048576) := by
  have key : ∀ (d i : Nat) (x : Int), l.length - i ≤ d → i ≤ l.length → l.length ≤ 1048576 → 0 ≤ x → x ≤ 1048576 → ∃ v, Ev (fun k => laws_szSettingS.l0 k l x (i : Int)) v ∧ (¬ v < 0 → (∀ y ∈ l.drop i, y.f0.size ≤ 1048576 ∧ y.f1.size ≤ 1048576) ∧ v ≤ 1048576) := by
    have last : ∀ (i : Nat) (x : Int), x ≤ 1048576 → i = l.length → ∃ v, Ev (fun k => laws_szSettingS.l0 k l x (i : Int)) v ∧ (¬ v < 0 → (∀ y ∈ l.drop i, y.f0.size ≤ 1048576 ∧ y.f1.size ≤ 1048576) ∧ v ≤ 1048576) := by
      intro i x hxl hi
      refine ⟨x, ev_unroll ?_, fun _ => ⟨fun y hy => ?_, hxl⟩⟩
      · simp only [laws_szSettingS.l0, if_neg (show ¬ (i : Int) < (l.length : Int) by omega)]
        exact Ev.now _
      · rw [hi, List.drop_length] at hy; cases hy
    intro d
    induction d with
    | zero => exact fun i x hd hi _ _ hx => last i x hx (by omega)
    | succ d ih =>
      intro i x hd hi hn hx0 hx1
      by_cases hlt : i < l.length
      · have e1 : rd_T42 l (i : Int) = l[i] := by simp [rd_T42, hlt]
        obtain ⟨sa, sb⟩ := hs _ (List.getElem_mem hlt)
        have hw := Aside0.mk (show wrap64 ((i : Int) + 1) = ((i + 1 : Nat) : Int) from (w64 (by omega) (by omega)).trans (by omega))
        obtain ⟨v, ev, hv⟩ := szSetting_some l[i].f0 l[i].f1 x sa sb hx0 hx1
        rcases hv with hv | ⟨v0, v1, s0, s1⟩
        · refine ⟨-1, ev_unroll ?_, fun h => absurd (by decide) h⟩
          simp only [laws_szSettingS.l0, if_pos (show (i : Int) < (l.length : Int) by omega), if_pos (show (0 : Int) ≤ (i : Int) by omega), e1, ev, Option.bind_some, if_pos hv]
          exact Ev.now _
        · obtain ⟨z, q, hz⟩ := ih (i + 1) v (by omega) (by omega) hn v0 v1
          refine ⟨z, ev_unroll ?_, fun h => ⟨fun y hy => ?_, (hz h).2⟩⟩
          · simp only [laws_szSettingS.l0, if_pos (show (i : Int) < (l.length : Int) by omega), if_pos (show (0 : Int) ≤ (i : Int) by omega), e1, ev, Option.bind_some, if_neg (show ¬ v < 0 by omega), hw.out]
            exact q
          · rw [List.drop_eq_getElem_cons hlt] at hy
            rcases List.mem_cons.1 hy with rfl | hy
            · exact ⟨s0, s1⟩
            · exact (hz h).1 y hy
      · exact last i x hx1 (by omega)
  unfold laws_szSettingS.f
  rw [w64 (x := X - (l.length : Int)) (by omega) (by omega)]
  by_cases h0 : X - (l.length : Int) < 0
  · refine ⟨-1, ?_, fun h => absurd (by decide) h⟩
    simp only [if_pos h0]
    exact Ev.now _
  · obtain ⟨v, q, hv⟩ := key l.length 0 (X - (l.length : Int)) (by omega) (by omega) (by omega) (by omega) (by omega)
    refine ⟨v, ?_, fun h => ⟨⟨by rw [List.length_map]; omega, fun y hy => ?_⟩, (hv h).2⟩⟩
    · simp only [if_neg h0]
      exact q
    · obtain ⟨z, hz, rfl⟩ := List.mem_map.1 hy
      exact (hv h).1 z (by simpa using hz)
/-- A list's names. -/
def N (l : List S38) : List (List UInt8) := l.map (fun s => s.f0.data.toList)
theorem N_length (l : List S38) : (N l).length = l.length := by simp [N]
theorem N_get (l : List S38) (i : Nat) (h : i < (N l).length) : (N l)[i] = (rd_T38 l (i : Int)).f0.data.toList := by
  rw [N_length] at h
  simp [N, rd_T38, h]
theorem N_drop (l : List S38) (i : Nat) (h : i < l.length) : (N l).drop i = (rd_T38 l (i : Int)).f0.data.toList :: (N l).drop (i + 1) := by
  have h2 : i < (N l).length := by rw [N_length]; exact h
  rw [List.drop_eq_getElem_cons h2, N_get]
theorem N_rise (l : List S38) (hl : l.length ≤ 1048576) (h : Ev (fun k => spec_SettingsOk.f k l) true) : (N l).Pairwise (· < ·) := by
  obtain ⟨K, hK⟩ := h
  have h1 := rise_of l hl K 0 (hK K (Nat.le_refl _))
  have h2 := rise_all l (fun j hj h0 => h1 j (by omega) hj h0)
  refine List.pairwise_iff_getElem.mpr (fun i j hi hj hij => ?_)
  have h3 := h2 i j hij (by rw [N_length] at hj; exact hj)
  rw [bytesLess_eq, decide_eq_true_eq, Lib.toList_data, Lib.toList_data] at h3
  rw [N_get, N_get]
  exact h3
theorem mkB (s : ByteArray) : (⟨s.data.toList.toArray⟩ : ByteArray) = s := Hand.bytes_ext (by simp)
theorem less_eq (a b : ByteArray) : Op.bytesLess a.toList b.toList = decide (a.data.toList < b.data.toList) := by
  rw [bytesLess_eq, Lib.toList_data, Lib.toList_data]
theorem look_in (l : List S38) (h : (N l).Pairwise (· < ·)) (i : Nat) (hi : i < l.length) : Hand.look l (rd_T38 l (i : Int)).f0 = ((rd_T38 l (i : Int)).f1, true) := by
  have e : rd_T38 l (i : Int) = l[i] := by simp [rd_T38, hi]
  rw [e]
  refine look_at l _ i hi rfl (fun j hj he => ?_)
  have hN : ∀ j (hj : j < l.length), (N l)[j]'(by rw [N_length]; exact hj) = l[j].f0.data.toList := fun j hj => by simp [N]
  rcases Nat.lt_trichotomy j i with h1 | h1 | h1
  · have := List.pairwise_iff_getElem.mp h j i (by rw [N_length]; exact hj) (by rw [N_length]; exact hi) h1
    rw [hN _ (by assumption), hN _ (by assumption), he] at this
    exact absurd this (List.lt_irrefl _)
  · exact h1
  · have := List.pairwise_iff_getElem.mp h i j (by rw [N_length]; exact hi) (by rw [N_length]; exact hj) h1
    rw [hN _ (by assumption), hN _ (by assumption), he] at this
    exact absurd this (List.lt_irrefl _)
theorem look_out (l : List S38) (n : ByteArray) (h : n.data.toList ∉ N l) : Hand.look l n = (⟨#[]⟩, false) := by
  refine look_none l n (fun x hx e => h ?_)
  unfold N
  exact List.mem_map.mpr ⟨x, hx, by rw [e]⟩
/-- The first of a row that rises. -/
theorem head_of {R : List (List UInt8)} {a : List UInt8} (hR : R.Pairwise (· < ·)) (ha : a ∈ R) (hm : ∀ x ∈ R, ¬ x < a) : ∃ R', R = a :: R' := by
  cases R with
  | nil => cases ha
  | cons h R' =>
    rcases List.mem_cons.mp ha with rfl | ha
    · exact ⟨R', rfl⟩
    · exact absurd ((List.pairwise_cons.mp hR).1 a ha) (hm h (by simp))
theorem drop_ge {M : List (List UInt8)} (h : M.Pairwise (· < ·)) {a : List UInt8} {T : List (List UInt8)} {i : Nat} (e : M.drop i = a :: T) : (∀ x ∈ M.drop i, ¬ x < a) ∧ a ∉ T ∧ (∀ x ∈ T, a < x) := by
  have hp : (a :: T).Pairwise (· < ·) := by rw [← e]; exact h.sublist (List.drop_sublist _ _)
  have h1 := (List.pairwise_cons.mp hp).1
  refine ⟨fun x hx => ?_, fun hm => List.lt_irrefl _ (h1 a hm), h1⟩
  rw [e] at hx
  rcases List.mem_cons.mp hx with rfl | hx
  · exact List.lt_irrefl _
  · exact List.lt_asymm (h1 x hx)
section
variable (l0 l1 : List S38) (hok : Hand.DiffOk l0 l1) (r0 : (N l0).Pairwise (· < ·)) (r1 : (N l1).Pairwise (· < ·))
/-- How far the reference has come: what is done, what is left. -/
structure At (i j : Nat) (D R : List (List UInt8)) (x : ByteArray) : Prop where
  all : Hand.names l0 l1 = D ++ R
  left : ∀ n, n ∈ R ↔ n ∈ (N l0).drop i ∨ n ∈ (N l1).drop j
  done0 : ∀ n ∈ (N l0).take i, n ∈ D
  done1 : ∀ n ∈ (N l1).take j, n ∈ D
  text : x.data.toList = D.flatMap (Hand.lineS l0 l1)
include hok in
theorem At_size {i j : Nat} {D R : List (List UInt8)} {x : ByteArray} (h : At l0 l1 i j D R x) : x.size ≤ 4398067482624 := by
  have h1 := Hand.names_length l0 l1 hok
  have h2 := Hand.text_cells l0 l1 hok D.length (by rw [h.all, List.length_append] at h1; omega)
  rw [Lib.byteCells_length, h.all, List.take_left, ← h.text, ← Lib.size_eq] at h2
  exact h2
theorem At_rise {i j : Nat} {D R : List (List UInt8)} {x : ByteArray} (h : At l0 l1 i j D R x) : R.Pairwise (· < ·) ∧ ∀ n ∈ R, n ∉ D := by
  have hs : (D ++ R).Pairwise (· < ·) := by rw [← h.all]; exact Hand.setN_lt _
  have := List.pairwise_append.mp hs
  exact ⟨this.2.1, fun n hn hd => List.lt_irrefl _ (this.2.2 n hd n hn)⟩
theorem not_in {l : List S38} {j : Nat} {D : List (List UInt8)} {n : List UInt8} (hd : ∀ n ∈ (N l).take j, n ∈ D) (h1 : n ∉ (N l).drop j) (h2 : n ∉ D) : n ∉ N l := by
  intro hm
  rw [← List.take_append_drop j (N l)] at hm
  rcases List.mem_append.mp hm with h | h
  · exact h2 (hd n h)
  · exact h1 h
theorem take_more {l : List S38} {i : Nat} {D : List (List UInt8)} (hi : i < l.length) (hd : ∀ n ∈ (N l).take i, n ∈ D) : ∀ n ∈ (N l).take (i + 1), n ∈ D ++ [(rd_T38 l (i : Int)).f0.data.toList] := by
  intro n hn
  have h2 : i < (N l).length := by rw [N_length]; exact hi
  rw [List.take_succ_eq_append_getElem h2, N_get] at hn
  rcases List.mem_append.mp hn with h | h
  · exact List.mem_append_left _ (hd n h)
  · exact List.mem_append_right _ h
include r0 in
/-- A name of the first list alone. -/
theorem At_unset {i j : Nat} {D R : List (List UInt8)} {x : ByteArray} (h : At l0 l1 i j D R x) (hi : i < l0.length) (hj : ∀ n ∈ (N l1).drop j, (rd_T38 l0 (i : Int)).f0.data.toList < n) :
    ∃ R', At l0 l1 (i + 1) j (D ++ [(rd_T38 l0 (i : Int)).f0.data.toList]) R' (((x ++ (⟨#[117, 110, 115, 101, 116, 32]⟩ : ByteArray)) ++ (rd_T38 l0 (i : Int)).f0) ++ (⟨#[10]⟩ : ByteArray)) := by
  obtain ⟨hR, hRD⟩ := At_rise l0 l1 h
  have e0 := N_drop l0 i hi
  have hm0 := mkB (rd_T38 l0 (i : Int)).f0
  generalize (rd_T38 l0 (i : Int)).f0 = A at *
  obtain ⟨g1, g2, g3⟩ := drop_ge r0 e0
  have ha : A.data.toList ∈ R := (h.left _).mpr (.inl (by rw [e0]; simp))
  obtain ⟨R', rfl⟩ := head_of hR ha (fun x hx => by
    rcases (h.left x).mp hx with h1 | h1
    · exact g1 x h1
    · exact List.lt_asymm (hj x h1))
  have hn1 : A.data.toList ∉ (N l1).drop j := fun hm => List.lt_irrefl _ (hj _ hm)
  have hp := List.pairwise_cons.mp hR
  refine ⟨R', by rw [h.all]; simp, fun n => ?_, ?_, fun n hn => List.mem_append_left _ (h.done1 n hn), ?_⟩
  · have := h.left n
    rw [List.mem_cons, e0, List.mem_cons] at this
    constructor
    · intro hn
      rcases this.mp (.inr hn) with (rfl | h2) | h2
      · exact absurd (hp.1 _ hn) (List.lt_irrefl _)
      · exact .inl h2
      · exact .inr h2
    · intro hn
      have h2 : n = A.data.toList ∨ n ∈ R' := this.mpr (by rcases hn with hn | hn; exact .inl (.inr hn); exact .inr hn)
      rcases h2 with rfl | h2
      · rcases hn with hn | hn
        · exact absurd hn g2
        · exact absurd hn hn1
      · exact h2
  · intro n hn
    have h2 : i < (N l0).length := by rw [N_length]; exact hi
    have e1 : (N l0)[i] = A.data.toList := by
      have := List.drop_eq_getElem_cons h2
      rw [e0] at this
      injection this with e1 _
      exact e1.symm
    rw [List.take_succ_eq_append_getElem h2, e1] at hn
    rcases List.mem_append.mp hn with h3 | h3
    · exact List.mem_append_left _ (h.done0 n h3)
    · exact List.mem_append_right _ h3
  · have hl : Hand.lineS l0 l1 A.data.toList = [117, 110, 115, 101, 116, 32] ++ A.data.toList ++ [10] := by
      unfold Hand.lineS
      rw [hm0, look_out l1 A (not_in h.done1 hn1 (hRD _ (by simp)))]
      simp
    rw [Hand.toList_app, Hand.toList_app, Hand.toList_app, h.text, List.flatMap_append]
    simp [hl]
include r1 in
/-- A name of the second list alone. -/
theorem At_set {i j : Nat} {D R : List (List UInt8)} {x : ByteArray} (h : At l0 l1 i j D R x) (hj : j < l1.length) (hi : ∀ n ∈ (N l0).drop i, (rd_T38 l1 (j : Int)).f0.data.toList < n) :
    ∃ R', At l0 l1 i (j + 1) (D ++ [(rd_T38 l1 (j : Int)).f0.data.toList]) R' (((((x ++ (⟨#[115, 101, 116, 32]⟩ : ByteArray)) ++ (rd_T38 l1 (j : Int)).f0) ++ (⟨#[32]⟩ : ByteArray)) ++ (rd_T38 l1 (j : Int)).f1) ++ (⟨#[10]⟩ : ByteArray)) := by
  obtain ⟨hR, hRD⟩ := At_rise l0 l1 h
  have e0 := N_drop l1 j hj
  have hl1 := look_in l1 r1 j hj
  have hm0 := mkB (rd_T38 l1 (j : Int)).f0
  generalize (rd_T38 l1 (j : Int)).f0 = A at *
  generalize (rd_T38 l1 (j : Int)).f1 = V at *
  obtain ⟨g1, g2, g3⟩ := drop_ge r1 e0
  have ha : A.data.toList ∈ R := (h.left _).mpr (.inr (by rw [e0]; simp))
  obtain ⟨R', rfl⟩ := head_of hR ha (fun x hx => by
    rcases (h.left x).mp hx with h1 | h1
    · exact List.lt_asymm (hi x h1)
    · exact g1 x h1)
  have hn0 : A.data.toList ∉ (N l0).drop i := fun hm => List.lt_irrefl _ (hi _ hm)
  have hp := List.pairwise_cons.mp hR
  refine ⟨R', by rw [h.all]; simp, fun n => ?_, fun n hn => List.mem_append_left _ (h.done0 n hn), ?_, ?_⟩
  · have := h.left n
    rw [List.mem_cons, e0, List.mem_cons] at this
    constructor
    · intro hn
      rcases this.mp (.inr hn) with h2 | (rfl | h2)
      · exact .inl h2
      · exact absurd (hp.1 _ hn) (List.lt_irrefl _)
      · exact .inr h2
    · intro hn
      have h2 : n = A.data.toList ∨ n ∈ R' := this.mpr (by rcases hn with hn | hn; exact .inl hn; exact .inr (.inr hn))
      rcases h2 with rfl | h2
      · rcases hn with hn | hn
        · exact absurd hn hn0
        · exact absurd hn g2
      · exact h2
  · intro n hn
    have h2 : j < (N l1).length := by rw [N_length]; exact hj
    have e1 : (N l1)[j] = A.data.toList := by
      have := List.drop_eq_getElem_cons h2
      rw [e0] at this
      injection this with e1 _
      exact e1.symm
    rw [List.take_succ_eq_append_getElem h2, e1] at hn
    rcases List.mem_append.mp hn with h3 | h3
    · exact List.mem_append_left _ (h.done1 n h3)
    · exact List.mem_append_right _ h3
  · have hl : Hand.lineS l0 l1 A.data.toList = [115, 101, 116, 32] ++ A.data.toList ++ [32] ++ V.data.toList ++ [10] := by
      unfold Hand.lineS
      rw [hm0, hl1, look_out l0 A (not_in h.done0 hn0 (hRD _ (by simp)))]
      simp
    rw [Hand.toList_app, Hand.toList_app, Hand.toList_app, Hand.toList_app, Hand.toList_app, h.text, List.flatMap_append]
    simp [hl]
include r0 r1 in
/-- A name of both. -/
theorem At_both {i j : Nat} {D R : List (List UInt8)} {x : ByteArray} (h : At l0 l1 i j D R x) (hi : i < l0.length) (hj : j < l1.length) (he : (rd_T38 l0 (i : Int)).f0 = (rd_T38 l1 (j : Int)).f0) :
    ∃ R', At l0 l1 (i + 1) (j + 1) (D ++ [(rd_T38 l1 (j : Int)).f0.data.toList]) R' (if (rd_T38 l0 (i : Int)).f1 = (rd_T38 l1 (j : Int)).f1 then x else (((((x ++ (⟨#[115, 101, 116, 32]⟩ : ByteArray)) ++ (rd_T38 l1 (j : Int)).f0) ++ (⟨#[32]⟩ : ByteArray)) ++ (rd_T38 l1 (j : Int)).f1) ++ (⟨#[10]⟩ : ByteArray))) := by
  obtain ⟨hR, hRD⟩ := At_rise l0 l1 h
  have e0 := N_drop l0 i hi
  have e1 := N_drop l1 j hj
  have hl0 := look_in l0 r0 i hi
  have hl1 := look_in l1 r1 j hj
  have hm0 := mkB (rd_T38 l1 (j : Int)).f0
  rw [he] at e0 hl0
  generalize (rd_T38 l1 (j : Int)).f0 = A at *
  generalize (rd_T38 l1 (j : Int)).f1 = V at *
  generalize (rd_T38 l0 (i : Int)).f1 = U at *
  obtain ⟨g1, g2, g3⟩ := drop_ge r0 e0
  obtain ⟨k1, k2, k3⟩ := drop_ge r1 e1
  have ha : A.data.toList ∈ R := (h.left _).mpr (.inl (by rw [e0]; simp))
  obtain ⟨R', rfl⟩ := head_of hR ha (fun x hx => by
    rcases (h.left x).mp hx with h1 | h1
    · exact g1 x h1
    · exact k1 x h1)
  have hp := List.pairwise_cons.mp hR
  refine ⟨R', by rw [h.all]; simp, fun n => ?_, ?_, ?_, ?_⟩
  · have := h.left n
    rw [List.mem_cons, e0, e1, List.mem_cons, List.mem_cons] at this
    constructor
    · intro hn
      rcases this.mp (.inr hn) with (rfl | h2) | (rfl | h2)
      · exact absurd (hp.1 _ hn) (List.lt_irrefl _)
      · exact .inl h2
      · exact absurd (hp.1 _ hn) (List.lt_irrefl _)
      · exact .inr h2
    · intro hn
      have h2 : n = A.data.toList ∨ n ∈ R' := this.mpr (by rcases hn with hn | hn; exact .inl (.inr hn); exact .inr (.inr hn))
      rcases h2 with rfl | h2
      · rcases hn with hn | hn
        · exact absurd hn g2
        · exact absurd hn k2
      · exact h2
  · intro n hn
    have h2 : i < (N l0).length := by rw [N_length]; exact hi
    have e2 : (N l0)[i] = A.data.toList := by
      have := List.drop_eq_getElem_cons h2
      rw [e0] at this
      injection this with e2 _
      exact e2.symm
    rw [List.take_succ_eq_append_getElem h2, e2] at hn
    rcases List.mem_append.mp hn with h3 | h3
    · exact List.mem_append_left _ (h.done0 n h3)
    · exact List.mem_append_right _ h3
  · intro n hn
    have h2 : j < (N l1).length := by rw [N_length]; exact hj
    have e2 : (N l1)[j] = A.data.toList := by
      have := List.drop_eq_getElem_cons h2
      rw [e1] at this
      injection this with e2 _
      exact e2.symm
    rw [List.take_succ_eq_append_getElem h2, e2] at hn
    rcases List.mem_append.mp hn with h3 | h3
    · exact List.mem_append_left _ (h.done1 n h3)
    · exact List.mem_append_right _ h3
  · by_cases hv : U = V
    · have hl : Hand.lineS l0 l1 A.data.toList = [] := by
        unfold Hand.lineS
        rw [hm0, hl1, hl0, hv]
        simp
      rw [if_pos hv, h.text, List.flatMap_append]
      simp [hl]
    · have hl : Hand.lineS l0 l1 A.data.toList = [115, 101, 116, 32] ++ A.data.toList ++ [32] ++ V.data.toList ++ [10] := by
        unfold Hand.lineS
        rw [hm0, hl1, hl0]
        simp [hv]
      rw [if_neg hv, Hand.toList_app, Hand.toList_app, Hand.toList_app, Hand.toList_app, Hand.toList_app, h.text, List.flatMap_append]
      simp [hl]
include hok r0 r1 in
theorem diff_go : ∀ (d i j : Nat) (D R : List (List UInt8)) (x : ByteArray), (l0.length - i) + (l1.length - j) ≤ d → i ≤ l0.length → j ≤ l1.length → At l0 l1 i j D R x → Ev (fun k => spec_Diff19.l0 k l0 l1 x (i : Int) (j : Int)) (Hand.diffS l0 l1) := by
  have hn0 := hok.1.1
  have hn1 := hok.2.1
  intro d
  induction d with
  | zero =>
    intro i j D R x hd hi hj h
    have e : x = Hand.diffS l0 l1 := by
      have hR : R = [] := by
        refine List.eq_nil_iff_forall_not_mem.mpr (fun n hn => ?_)
        rcases (h.left n).mp hn with h1 | h1
        · rw [List.drop_eq_nil_of_le (by rw [N_length]; omega)] at h1; cases h1
        · rw [List.drop_eq_nil_of_le (by rw [N_length]; omega)] at h1; cases h1
      unfold Hand.diffS
      rw [h.all, hR, List.append_nil, ← h.text, mkB]
    subst e
    refine ev_unroll ?_
    simp only [spec_Diff19.l0, if_neg (show ¬ (i : Int) < (l0.length : Int) by omega), decide_eq_false (show ¬ (j : Int) < (l1.length : Int) by omega)]
    refine ev_unroll ?_
    simp only [spec_Diff19.j2, Bool.false_eq_true, if_false]
    exact Ev.now _
  | succ d ih =>
    intro i j D R x hd hi hj h
    by_cases hz : l0.length - i + (l1.length - j) = 0
    · exact ih i j D R x (by omega) hi hj h
    have hsz := Aside0.mk (At_size l0 l1 hok h)
    have hwi := Aside0.mk (show wrap64 ((i : Int) + 1) = ((i + 1 : Nat) : Int) from (w64 (by omega) (by omega)).trans (by omega))
    have hwj := Aside0.mk (show wrap64 ((j : Int) + 1) = ((j + 1 : Nat) : Int) from (w64 (by omega) (by omega)).trans (by omega))
    have s6 : ((⟨#[117, 110, 115, 101, 116, 32]⟩ : ByteArray)).size = 6 := rfl
    have s4 : ((⟨#[115, 101, 116, 32]⟩ : ByteArray)).size = 4 := rfl
    have s1 : ((⟨#[32]⟩ : ByteArray)).size = 1 := rfl
    have fA : i < l0.length → (rd_T38 l0 (i : Int)).f0.size ≤ 1048576 := fun hlt => (hok.1.2 _ (rd38_mem l0 i hlt)).1
    have fB : j < l1.length → (rd_T38 l1 (j : Int)).f0.size ≤ 1048576 ∧ (rd_T38 l1 (j : Int)).f1.size ≤ 1048576 := fun hlt => hok.2.2 _ (rd38_mem l1 j hlt)
    -- the first list's name alone
    have goA : i < l0.length → (∀ n ∈ (N l1).drop j, (rd_T38 l0 (i : Int)).f0.data.toList < n) → Ev (fun k => spec_Diff19.j3 k l0 l1 x (i : Int) (j : Int) true) (Hand.diffS l0 l1) := by
      intro hlt hlo
      obtain ⟨R', h'⟩ := At_unset l0 l1 r0 h hlt hlo
      have hA := fA hlt
      have hs := hsz.out
      have q := ih (i + 1) j _ R' _ (by omega) (by omega) hj h'
      refine ev_unroll ?_
      simp only [spec_Diff19.j3, if_true, if_pos (show (0 : Int) ≤ (i : Int) by omega), if_pos (show (i : Int) < (l0.length : Int) by omega), ByteArray.size_append, s6, hwi.out]
      simp only [if_pos (show x.size + 6 ≤ 9223372036854775807 by omega), if_pos (show x.size + 6 + (rd_T38 l0 (i : Int)).f0.size ≤ 9223372036854775807 by omega), if_pos (show x.size + 6 + (rd_T38 l0 (i : Int)).f0.size + 1 ≤ 9223372036854775807 by omega)]
      exact q
    -- what is written of the second list's name
    have put : j < l1.length → ∀ (f : Nat → Option ByteArray) (y : ByteArray), y = ((((x ++ (⟨#[115, 101, 116, 32]⟩ : ByteArray)) ++ (rd_T38 l1 (j : Int)).f0) ++ (⟨#[32]⟩ : ByteArray)) ++ (rd_T38 l1 (j : Int)).f1) ++ (⟨#[10]⟩ : ByteArray) → ∀ r, Ev f r →
        Ev (fun k => if x.size + 4 ≤ 9223372036854775807 then (if (x ++ (⟨#[115, 101, 116, 32]⟩ : ByteArray)).size + (rd_T38 l1 (j : Int)).f0.size ≤ 9223372036854775807 then (if ((x ++ (⟨#[115, 101, 116, 32]⟩ : ByteArray)) ++ (rd_T38 l1 (j : Int)).f0).size + 1 ≤ 9223372036854775807 then (if (((x ++ (⟨#[115, 101, 116, 32]⟩ : ByteArray)) ++ (rd_T38 l1 (j : Int)).f0) ++ (⟨#[32]⟩ : ByteArray)).size + (rd_T38 l1 (j : Int)).f1.size ≤ 9223372036854775807 then (if ((((x ++ (⟨#[115, 101, 116, 32]⟩ : ByteArray)) ++ (rd_T38 l1 (j : Int)).f0) ++ (⟨#[32]⟩ : ByteArray)) ++ (rd_T38 l1 (j : Int)).f1).size + 1 ≤ 9223372036854775807 then f k else none) else none) else none) else none) else none) r := by
      intro hlt f y _ r hf
      have hB := fB hlt
      have hs := hsz.out
      simp only [ByteArray.size_append, s4, s1]
      simp only [if_pos (show x.size + 4 ≤ 9223372036854775807 by omega), if_pos (show x.size + 4 + (rd_T38 l1 (j : Int)).f0.size ≤ 9223372036854775807 by omega), if_pos (show x.size + 4 + (rd_T38 l1 (j : Int)).f0.size + 1 ≤ 9223372036854775807 by omega), if_pos (show x.size + 4 + (rd_T38 l1 (j : Int)).f0.size + 1 + (rd_T38 l1 (j : Int)).f1.size ≤ 9223372036854775807 by omega), if_pos (show x.size + 4 + (rd_T38 l1 (j : Int)).f0.size + 1 + (rd_T38 l1 (j : Int)).f1.size + 1 ≤ 9223372036854775807 by omega)]
      exact hf
    have goB : j < l1.length → (∀ n ∈ (N l0).drop i, (rd_T38 l1 (j : Int)).f0.data.toList < n) → Ev (fun k => spec_Diff19.j4 k l0 l1 x (i : Int) (j : Int) true) (Hand.diffS l0 l1) := by
      intro hlt hlo
      obtain ⟨R', h'⟩ := At_set l0 l1 r1 h hlt hlo
      have q := ih i (j + 1) _ R' _ (by omega) hi (by omega) h'
      refine ev_unroll ?_
      simp only [spec_Diff19.j4, if_true, if_pos (show (0 : Int) ≤ (j : Int) by omega), if_pos (show (j : Int) < (l1.length : Int) by omega), hwj.out]
      exact put hlt _ _ rfl _ q
    have goC : ∀ (hlt : i < l0.length) (hlt2 : j < l1.length), (rd_T38 l0 (i : Int)).f0 = (rd_T38 l1 (j : Int)).f0 → Ev (fun k => spec_Diff19.j4 k l0 l1 x (i : Int) (j : Int) false) (Hand.diffS l0 l1) := by
      intro hlt hlt2 he
      obtain ⟨R', h'⟩ := At_both l0 l1 r0 r1 h hlt hlt2 he
      have q := ih (i + 1) (j + 1) _ R' _ (by omega) (by omega) (by omega) h'
      refine ev_unroll ?_
      simp only [spec_Diff19.j4, Bool.false_eq_true, if_false, if_pos (show (0 : Int) ≤ (j : Int) by omega), if_pos (show (j : Int) < (l1.length : Int) by omega), if_pos (show (0 : Int) ≤ (i : Int) by omega), if_pos (show (i : Int) < (l0.length : Int) by omega), hwi.out, hwj.out, tl_eq]
      by_cases hv : (rd_T38 l0 (i : Int)).f1 = (rd_T38 l1 (j : Int)).f1
      · simp only [if_pos hv] at q ⊢
        exact q
      · simp only [if_neg hv] at q ⊢
        exact put hlt2 _ _ rfl _ q
    refine ev_unroll ?_
    have enter : Ev (fun k => spec_Diff19.j2 k l0 l1 x (i : Int) (j : Int) true) (Hand.diffS l0 l1) := by
      refine ev_unroll ?_
      simp only [spec_Diff19.j2, if_true]
      by_cases ej : j = l1.length
      · simp only [if_pos (show (j : Int) = (l1.length : Int) by omega)]
        exact goA (by omega) (fun n hn => by rw [List.drop_eq_nil_of_le (by rw [N_length]; omega)] at hn; cases hn)
      · simp only [if_neg (show ¬ (j : Int) = (l1.length : Int) by omega)]
        by_cases ei : i < l0.length
        · simp only [if_pos (show (i : Int) < (l0.length : Int) by omega), if_pos (show (0 : Int) ≤ (i : Int) by omega), if_pos (show (0 : Int) ≤ (j : Int) by omega), if_pos (show (j : Int) < (l1.length : Int) by omega), less_eq]
          have g0 := drop_ge r0 (N_drop l0 i ei)
          have g1 := drop_ge r1 (N_drop l1 j (by omega))
          by_cases hc : (rd_T38 l0 (i : Int)).f0.data.toList < (rd_T38 l1 (j : Int)).f0.data.toList
          · simp only [decide_eq_true hc]
            exact goA ei (fun n hn => by
              rw [N_drop l1 j (by omega)] at hn
              rcases List.mem_cons.mp hn with rfl | hn
              · exact hc
              · exact List.lt_trans hc (g1.2.2 n hn))
          · simp only [decide_eq_false hc]
            refine ev_unroll ?_
            simp only [spec_Diff19.j3, Bool.false_eq_true, if_false, if_neg (show ¬ (i : Int) = (l0.length : Int) by omega), if_pos (show (0 : Int) ≤ (i : Int) by omega), if_pos (show (i : Int) < (l0.length : Int) by omega), if_pos (show (0 : Int) ≤ (j : Int) by omega), if_pos (show (j : Int) < (l1.length : Int) by omega), less_eq]
            by_cases hc2 : (rd_T38 l1 (j : Int)).f0.data.toList < (rd_T38 l0 (i : Int)).f0.data.toList
            · simp only [decide_eq_true hc2]
              exact goB (by omega) (fun n hn => by
                rw [N_drop l0 i ei] at hn
                rcases List.mem_cons.mp hn with rfl | hn
                · exact hc2
                · exact List.lt_trans hc2 (g0.2.2 n hn))
            · simp only [decide_eq_false hc2]
              refine goC ei (by omega) (Hand.bytes_ext ?_)
              exact List.le_antisymm (List.not_lt.mp hc2) (List.not_lt.mp hc)
        · simp only [if_neg (show ¬ (i : Int) < (l0.length : Int) by omega)]
          refine ev_unroll ?_
          simp only [spec_Diff19.j3, Bool.false_eq_true, if_false, if_pos (show (i : Int) = (l0.length : Int) by omega)]
          exact goB (by omega) (fun n hn => by rw [List.drop_eq_nil_of_le (by rw [N_length]; omega)] at hn; cases hn)
    by_cases ei : i < l0.length
    · simp only [spec_Diff19.l0, if_pos (show (i : Int) < (l0.length : Int) by omega)]
      exact enter
    · simp only [spec_Diff19.l0, if_neg (show ¬ (i : Int) < (l0.length : Int) by omega), decide_eq_true (show (j : Int) < (l1.length : Int) by omega)]
      exact enter
end
theorem At_start (l0 l1 : List S38) : At l0 l1 0 0 [] (Hand.names l0 l1) ⟨#[]⟩ := by
  refine ⟨rfl, fun n => ?_, fun n hn => (by cases hn), fun n hn => (by cases hn), rfl⟩
  simp only [List.drop_zero]
  unfold Hand.names
  rw [Hand.mem_setN, List.mem_append]
  rfl
theorem diff_both (l0 l1 : List S38) (h0 : Small l0) (h1 : Small l1) : ∃ r, Ev (fun k => spec_Diff19.f k l0 l1) r ∧ Ev (fun k => impl_Diff19.f k l0 l1) r := by
  have hok : Hand.DiffOk l0 l1 := ⟨h0, h1⟩
  obtain ⟨b0, ps0, pi0⟩ := settings_both l0 h0
  obtain ⟨b1, ps1, pi1⟩ := settings_both l1 h1
  have no : Ev (fun k => spec_Diff19.j0 k l0 l1 ⟨#[]⟩ true) (⟨#[]⟩ : ByteArray) := ev_unroll (by simp only [spec_Diff19.j0, if_true]; exact Ev.now _)
  cases b0
  · refine ⟨⟨#[]⟩, ?_, ?_⟩
    · simp only [spec_Diff19.f]
      refine Ev.bind ps0 ?_
      simp only [Bool.false_eq_true, if_false]
      exact no
    · simp only [impl_Diff19.f, if_pos hok]
      refine Ev.bind pi0 ?_
      simp only [Bool.false_eq_true, if_false]
      exact Ev.now _
  cases b1
  · refine ⟨⟨#[]⟩, ?_, ?_⟩
    · simp only [spec_Diff19.f]
      refine Ev.bind ps0 ?_
      simp only [if_true]
      refine Ev.bind ps1 ?_
      simp only [Bool.not_false]
      exact no
    · simp only [impl_Diff19.f, if_pos hok]
      refine Ev.bind pi0 ?_
      simp only [if_true]
      refine Ev.bind pi1 ?_
      simp only [Bool.false_eq_true, if_false]
      exact Ev.now _
  · refine ⟨Hand.diffS l0 l1, ?_, ?_⟩
    · simp only [spec_Diff19.f]
      refine Ev.bind ps0 ?_
      simp only [if_true]
      refine Ev.bind ps1 ?_
      simp only [Bool.not_true]
      refine ev_unroll ?_
      simp only [spec_Diff19.j0, Bool.false_eq_true, if_false]
      exact diff_go l0 l1 hok (N_rise l0 h0.1 ps0) (N_rise l1 h1.1 ps1) _ 0 0 [] _ _ (Nat.le_refl _) (by omega) (by omega) (At_start l0 l1)
    · simp only [impl_Diff19.f, if_pos hok]
      refine Ev.bind pi0 ?_
      simp only [if_true]
      refine Ev.bind pi1 ?_
      simp only [if_true]
      exact Ev.now _
def laws_FnExactDiff19.Pure : Prop := ∀ (l0 : List S42) (l1 : List S42), l0.length ≤ maxLen → (∀ x ∈ l0, x.f0.size ≤ maxLen ∧ x.f1.size ≤ maxLen) → l1.length ≤ maxLen → (∀ x ∈ l1, x.f0.size ≤ maxLen ∧ x.f1.size ≤ maxLen) → ∃ k, laws_FnExactDiff19.f k l0 l1 = some true
theorem FnExactDiff19 : laws_FnExactDiff19.Pure := by
  intro l0 l1 hm0 hs0 hm1 hs1
  refine Ev.rounds (g := fun k => laws_FnExactDiff19.f k l0 l1) ?_
  unfold laws_FnExactDiff19.f
  obtain ⟨v, hv, hv2⟩ := sz2_ev l0 1048576 (by omega) (by omega) hm0 hs0
  refine Ev.bind hv ?_
  by_cases hb : v < 0
  · simp only [if_pos hb]
    exact Ev.now _
  simp only [if_neg hb]
  obtain ⟨hsm0, hvl⟩ := hv2 hb
  obtain ⟨u, hu, hu2⟩ := sz2_ev l1 v (by omega) hvl hm1 hs1
  refine Ev.bind hu ?_
  by_cases hc : u < 0
  · simp only [if_pos hc]
    exact Ev.now _
  simp only [if_neg hc]
  obtain ⟨hsm1, _⟩ := hu2 hc
  have hn0 : l0.length ≤ 1048576 := by have := hsm0.1; rw [List.length_map] at this; exact this
  have hn1 : l1.length ≤ 1048576 := by have := hsm1.1; rw [List.length_map] at this; exact this
  have ht0 := toSettingS_ev l0 hn0
  have ht1 := toSettingS_ev l1 hn1
  obtain ⟨r, p, q⟩ := diff_both (l0.map cv) (l1.map cv) hsm0 hsm1
  refine Ev.bind ht0 (Ev.bind ht1 (Ev.bind p (Ev.bind ht0 (Ev.bind ht1 (Ev.bind q ?_)))))
  simp only [if_true]
  refine Ev.bind ht0 (Ev.bind (eqSettingS_ev _ hsm0.1) ?_)
  simp only [if_true]
  refine Ev.bind ht1 (Ev.bind (eqSettingS_ev _ hsm1.1) ?_)
  simp only [if_true]
  exact Ev.now _

end Go.Proofs.YtfepbnolgceadaaDoor.Pure
