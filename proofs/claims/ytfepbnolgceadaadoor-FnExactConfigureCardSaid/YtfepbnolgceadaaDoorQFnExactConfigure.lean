/- The program's Configure answers as the reference's, for every list of settings and every text. -/
import Derived.Test.YtfepbnolgceadaaDoorMFnExactConfigurex19
import Derived.Test.YtfepbnolgceadaaDoorHandConfREFnExactConfigure
import Derived.Test.YtfepbnolgceadaaDoorKitFnExactConfigure
namespace Go.Proofs.YtfepbnolgceadaaDoor.Pure
set_option linter.unusedSimpArgs false
set_option linter.unusedVariables false
set_option linter.unusedSectionVars false
open Go Go.RowKit Go.Proofs.YtfepbnolgceadaaDoor.MFnExactConfigure Go.Proofs.YtfepbnolgceadaaDoorW.PrintWords Go.Proofs.YtfepbnolgceadaaDoorW.PrintLast Go.Proofs.YtfepbnolgceadaaDoor.Mine

theorem bt_get (s : ByteArray) (i : Nat) (h : i < s.size) : bt s (i : Int) = ((s.get! i).toNat : Int) := by
  unfold bt
  rw [dif_pos (by simpa using h), Utf8W.get!_of_lt s i h]
  simp
theorem l1In_eq (x a b : Int) : spec_l1In.f x a b = some (decide (a ≤ x ∧ x ≤ b)) := by
  unfold spec_l1In.f
  by_cases h : a ≤ x
  · simp [h]
  · simp [h]
theorem spec_letter_eq (x : Int) : spec_l19Letter.f x = some (Hand.letterB x) := by
  unfold spec_l19Letter.f Hand.letterB
  simp only [l1In_eq, Option.bind_some, ge_iff_le]
  by_cases a1 : 65 ≤ x ∧ x ≤ 90
  · simp [a1.1, a1.2]
  by_cases a2 : 97 ≤ x ∧ x ≤ 122
  · simp [show 65 ≤ x by omega, show ¬ x ≤ 90 by omega, a2.1, a2.2]
  have hlow : ∀ (p q : Option Bool), (if 65 ≤ x then (if x ≤ 90 then some true else (if 97 ≤ x then (if x ≤ 122 then some true else p) else p)) else (if 97 ≤ x then (if x ≤ 122 then some true else p) else p)) = p := by
    intro p q
    split
    · rw [if_neg (by omega)]
      split
      · rw [if_neg (by omega)]
      · rfl
    · split
      · rw [if_neg (by omega)]
      · rfl
  refine (hlow _ none).trans ?_
  by_cases a3 : 192 ≤ x ∧ x ≤ 591
  · by_cases a4 : x = 215
    · subst a4; simp
    · by_cases a5 : x = 247
      · subst a5; simp
      · simp [a1, a2, a3, a4, a5]
  by_cases a6 : 913 ≤ x ∧ x ≤ 969
  · have a7 : ¬ (1040 ≤ x ∧ x ≤ 1103) := by omega
    have a8 : ¬ (192 ≤ x ∧ x ≤ 591 ∧ x ≠ 215 ∧ x ≠ 247) := fun h => a3 ⟨h.1, h.2.1⟩
    by_cases a9 : x = 930
    · subst a9; simp
    · simp [a1, a2, a3, a6, a7, a8, a9]
  · have a8 : ¬ (192 ≤ x ∧ x ≤ 591 ∧ x ≠ 215 ∧ x ≠ 247) := fun h => a3 ⟨h.1, h.2.1⟩
    have a9 : ¬ (913 ≤ x ∧ x ≤ 969 ∧ x ≠ 930) := fun h => a6 ⟨h.1, h.2.1⟩
    simp only [decide_eq_false a1, decide_eq_false a2, decide_eq_false a3, decide_eq_false a6, decide_eq_false a8, decide_eq_false a9, Bool.false_eq_true, if_false, Bool.false_or]
/-- A rune as the reference reads it, and as the program does. -/
theorem rune_step (s : ByteArray) (pos : Nat) (h : pos < s.size) (hs : s.size ≤ 140737488351232) :
    (∃ R K : Nat, Utf8.decode s pos = (R, K) ∧ spec_l19Rune.f s (pos : Int) = some ((R : Int), (K : Int)) ∧ 1 ≤ K ∧ K ≤ 2 ∧ pos + K ≤ s.size ∧ R < 2048)
    ∨ (spec_l19Rune.f s (pos : Int) = some (0, 0) ∧ 2048 ≤ (Utf8.decode s pos).1) := by
  have hb := Aside0.mk (bt_get s pos h)
  have hw := Aside0.mk (show wrap64 ((pos : Int) + 1) = ((pos + 1 : Nat) : Int) from (w64 (by omega) (by omega)).trans (by omega))
  have k0 := (s.get! pos).toNat_lt
  have k1 := (s.get! (pos + 1)).toNat_lt
  have hb2 := Aside0.mk (bt_get s (pos + 1))
  have hd := Aside0.mk (Lib.decode_at s pos)
  generalize (s.get! pos).toNat = b0 at hb hd k0
  generalize (s.get! (pos + 1)).toNat = b1 at hb2 hd k1
  generalize (s.get! (pos + 2)).toNat = b2 at hd
  generalize (s.get! (pos + 3)).toNat = b3 at hd
  obtain ⟨n, hn⟩ : ∃ n, s.size = n := ⟨_, rfl⟩
  have hn2 := Aside0.mk hn
  unfold spec_l19Rune.f
  rw [hn]
  rw [hn] at h hs
  clear hn
  rw [if_pos (by omega), if_pos (by omega), hb.out, hw.out]
  have hwb := Aside0.mk (show wrap64 (b0 : Int) = (b0 : Int) from w64 (by omega) (by omega))
  rw [hwb.out]
  by_cases c0 : b0 < 128
  · left
    refine ⟨b0, 1, ?_, ?_, by omega, by omega, by omega, by omega⟩
    · rw [hd.out, Lib.decodeN_ascii _ _ _ _ _ c0]
    · rw [if_pos (by omega)]; rfl
  rw [if_neg (by omega)]
  by_cases c1 : 194 ≤ b0 ∧ b0 ≤ 223 ∧ pos + 1 < n ∧ 128 ≤ b1 ∧ b1 ≤ 191
  · obtain ⟨d0, d1, d2, d3, d4⟩ := c1
    have hb3 := Aside0.mk (hb2.out (by rw [hn2.out]; exact d2))
    have hwb1 := Aside0.mk (show wrap64 (b1 : Int) = (b1 : Int) from w64 (by omega) (by omega))
    left
    refine ⟨(b0 - 192) * 64 + (b1 - 128), 2, ?_, ?_, by omega, by omega, by omega, by omega⟩
    · rw [hd.out, hn2.out]
      unfold Lib.decodeN
      rw [if_neg c0, if_pos ⟨by omega, by omega, by omega⟩, if_pos (by omega), show b0 % 32 * 64 + b1 % 64 = (b0 - 192) * 64 + (b1 - 128) by omega]
    · rw [if_neg (by omega), if_neg (by omega), if_neg (by omega), if_pos (by omega), if_pos (by omega), hb3.out, if_neg (by omega), if_neg (by omega), hwb1.out]
      rw [w64 (x := (b0 : Int) - 192) (by omega) (by omega), w64 (x := ((b0 : Int) - 192) * 64) (by omega) (by omega), w64 (x := ((b0 : Int) - 192) * 64 + (b1 : Int)) (by omega) (by omega), w64 (x := ((b0 : Int) - 192) * 64 + (b1 : Int) - 128) (by omega) (by omega)]
      rw [show ((((b0 - 192) * 64 + (b1 - 128) : Nat) : Nat) : Int) = ((b0 : Int) - 192) * 64 + (b1 : Int) - 128 by omega]
      rfl
  · right
    constructor
    · by_cases e0 : b0 < 194
      · rw [if_pos (by omega)]
      rw [if_neg (by omega)]
      by_cases e1 : 223 < b0
      · rw [if_pos (by omega)]
      rw [if_neg (by omega)]
      by_cases e2 : n ≤ pos + 1
      · rw [if_pos (by omega)]
      have hb3 := Aside0.mk (hb2.out (by rw [hn2.out]; omega))
      rw [if_neg (by omega), if_pos (by omega), if_pos (by omega), hb3.out]
      by_cases e3 : b1 < 128
      · rw [if_pos (by omega)]
      rw [if_neg (by omega), if_pos (by omega)]
    · rw [hd.out, hn2.out]
      have hsh := Lib.decodeN_shape (n - pos) b0 b1 b2 b3
      clear hd hb hw hb2 hn2 hwb
      rcases hsh with ⟨x, _⟩ | ⟨x1, x2, x3, x4, _⟩ | ⟨_, _, _, _, x, _, e⟩ | ⟨_, _, _, _, _, x, _, e⟩ | e
      · omega
      · exfalso; apply c1; omega
      · rw [e]; exact x
      · rw [e]; exact Nat.le_trans (by omega) x
      · rw [e]; simp
theorem high_rune (R : Nat) (h : 2048 ≤ R) (f : Bool) : Hand.runeB (R : Int) f = false := by
  unfold Hand.runeB Hand.letterB
  rw [Hand.sign_high _ (by omega), decide_eq_false (by omega), decide_eq_false (by omega), decide_eq_false (by omega), decide_eq_false (by omega), decide_eq_false (by omega)]
  simp
theorem word_from (s : ByteArray) (hs : s.size ≤ 140737488351232) : ∀ (d pos many : Nat), s.size - pos ≤ d → pos ≤ s.size → many ≤ pos → (many = 0 ↔ pos = 0) →
    Ev (fun k => spec_WordOk.l0 k s (many : Int) (pos : Int)) (Lib.validD (s.data.toList.drop pos) && decide (1 ≤ many + Lib.runeCountFrom s d pos ∧ many + Lib.runeCountFrom s d pos ≤ 16) && Hand.runesFrom s d pos) := by
  have last : ∀ (d pos many : Nat), pos = s.size → Ev (fun k => spec_WordOk.l0 k s (many : Int) (pos : Int)) (Lib.validD (s.data.toList.drop pos) && decide (1 ≤ many + Lib.runeCountFrom s d pos ∧ many + Lib.runeCountFrom s d pos ≤ 16) && Hand.runesFrom s d pos) := by
    intro d pos many hp
    refine ev_unroll ?_
    simp only [spec_WordOk.l0, if_neg (show ¬ (pos : Int) < (s.size : Int) by omega), l1In_eq, Option.bind_some]
    rw [Lib.runeCountFrom_end s d pos (by omega), Hand.runesFrom_end s d pos (by omega), List.drop_eq_nil_of_le (by rw [hp]; exact Nat.le_of_eq (Lib.size_eq s).symm)]
    refine ev_eq (Ev.now _) ?_
    have e : Lib.validD [] = true := rfl
    rw [e, Bool.true_and, Bool.and_true, Nat.add_zero, decide_eq_decide]
    omega
  intro d
  induction d with
  | zero => exact fun pos many hd hp _ _ => last 0 pos many (by omega)
  | succ d ih =>
    intro pos many hd hp hm hz
    by_cases hlt : pos < s.size
    · have hl : s.data.toList.length = s.size := (Lib.size_eq s).symm
      have hne : s.data.toList.drop pos ≠ [] := by
        intro h
        have := congrArg List.length h
        rw [List.length_drop, List.length_nil] at this
        omega
      rcases rune_step s pos hlt hs with ⟨R, K, e1, e2, p1, p2, p3, p4⟩ | ⟨e2, p1⟩
      · have hv : Lib.validD (s.data.toList.drop pos) = Lib.validD (s.data.toList.drop (pos + K)) := by
          rw [Lib.validD_step _ hne, Lib.decodeL_drop, e1]
          simp only
          rw [if_neg (by omega), List.drop_drop]
        have hc : Lib.runeCountFrom s (d + 1) pos = 1 + Lib.runeCountFrom s d (pos + K) := by
          simp only [Lib.runeCountFrom]
          rw [if_pos hlt, e1]
        have hr : Hand.runesFrom s (d + 1) pos = (Hand.runeB (R : Int) (pos == 0) && Hand.runesFrom s d (pos + K)) := by
          simp only [Hand.runesFrom]
          rw [if_pos hlt, e1]
        have q := ih (pos + K) (many + 1) (by omega) (by omega) (by omega) (by omega)
        rw [hv, hc, hr]
        have ew1 := Aside0.mk (show wrap64 ((many : Int) + 1) = ((many + 1 : Nat) : Int) from (w64 (by omega) (by omega)).trans (by omega))
        have ew2 := Aside0.mk (show wrap64 ((pos : Int) + (K : Int)) = ((pos + K : Nat) : Int) from (w64 (by omega) (by omega)).trans (by omega))
        have q2 : Hand.runeB (R : Int) (pos == 0) = true → Ev (fun k => spec_WordOk.l0 k s (wrap64 ((many : Int) + 1)) (wrap64 ((pos : Int) + (K : Int)))) (Lib.validD (s.data.toList.drop (pos + K)) && decide (1 ≤ many + (1 + Lib.runeCountFrom s d (pos + K)) ∧ many + (1 + Lib.runeCountFrom s d (pos + K)) ≤ 16) && (Hand.runeB (R : Int) (pos == 0) && Hand.runesFrom s d (pos + K))) := by
          intro h
          rw [ew1.out, ew2.out, h, Bool.true_and, show many + (1 + Lib.runeCountFrom s d (pos + K)) = many + 1 + Lib.runeCountFrom s d (pos + K) by omega]
          exact q
        have q3 : Hand.runeB (R : Int) (pos == 0) = false → false = (Lib.validD (s.data.toList.drop (pos + K)) && decide (1 ≤ many + (1 + Lib.runeCountFrom s d (pos + K)) ∧ many + (1 + Lib.runeCountFrom s d (pos + K)) ≤ 16) && (Hand.runeB (R : Int) (pos == 0) && Hand.runesFrom s d (pos + K))) := by
          intro h
          rw [h, Bool.false_and, Bool.and_false]
        refine ev_unroll ?_
        simp only [spec_WordOk.l0, if_pos (show (pos : Int) < (s.size : Int) by omega), e2, Option.bind_some, if_neg (show ¬ (K : Int) = 0 by omega), spec_letter_eq]
        cases hL : Hand.letterB (R : Int)
        · simp only [Bool.false_eq_true, if_false]
          by_cases h0 : many = 0
          · have h1 : pos = 0 := hz.1 h0
            have hB : Hand.runeB (R : Int) (pos == 0) = false := by unfold Hand.runeB; rw [hL, h1]; rfl
            simp only [if_pos (show (many : Int) = 0 by omega)]
            exact ev_eq (Ev.now _) (q3 hB)
          · have h1 : (pos == 0) = false := beq_eq_false_iff_ne.mpr (fun h => h0 (hz.2 h))
            have hB : Hand.runeB (R : Int) (pos == 0) = Hand.signB (R : Int) := by unfold Hand.runeB; rw [hL, h1]; rfl
            simp only [if_neg (show ¬ (many : Int) = 0 by omega)]
            by_cases s1 : (R : Int) = 45
            · simp only [if_pos s1]; exact q2 (by rw [hB, s1]; rfl)
            simp only [if_neg s1]
            by_cases s2 : (R : Int) = 95
            · simp only [if_pos s2]; exact q2 (by rw [hB, s2]; rfl)
            simp only [if_neg s2]
            by_cases s3 : (R : Int) = 46
            · simp only [if_pos s3]; exact q2 (by rw [hB, s3]; rfl)
            simp only [if_neg s3, l1In_eq, Option.bind_some]
            by_cases s4 : 48 ≤ (R : Int) ∧ (R : Int) ≤ 57
            · simp only [decide_eq_true s4, if_true]
              exact q2 (by rw [hB]; unfold Hand.signB; rw [decide_eq_true s4]; rfl)
            · simp only [decide_eq_false s4, Bool.false_eq_true, if_false]
              refine ev_eq (Ev.now _) (q3 ?_)
              rw [hB]
              unfold Hand.signB
              rw [decide_eq_false s4, decide_eq_false s1, decide_eq_false s2, decide_eq_false s3]
              rfl
        · simp only [if_true]
          exact q2 (by unfold Hand.runeB; rw [hL]; rfl)
      · have hr : Hand.runesFrom s (d + 1) pos = false := by
          simp only [Hand.runesFrom]
          rw [if_pos hlt, high_rune _ p1, Bool.false_and]
        rw [hr, Bool.and_false]
        refine ev_unroll ?_
        simp only [spec_WordOk.l0, if_pos (show (pos : Int) < (s.size : Int) by omega), e2, Option.bind_some, if_true]
        exact Ev.now _
    · exact last (d + 1) pos many (by omega)
theorem word_ev (s : ByteArray) (hs : s.size ≤ 140737488351232) : Ev (fun k => spec_WordOk.f k s) (Hand.wordB s) := by
  have h := word_from s hs s.size 0 0 (by omega) (by omega) (by omega) (by omega)
  simp only [Nat.zero_add, List.drop_zero] at h
  exact h
theorem impl_word_ev (s : ByteArray) (hs : s.size ≤ 140737488351232) : Ev (fun k => impl_WordOk.f k s) (Hand.wordB s) := by
  refine ⟨0, fun k _ => ?_⟩
  simp only [impl_WordOk.f, if_pos hs]
theorem digit_byte (b : Nat) (h : b < 256) : Hand.digitB (UInt8.ofNat b) = decide (48 ≤ b ∧ b ≤ 57) := by
  unfold Hand.digitB
  rw [UInt8.toNat_ofNat', Nat.mod_eq_of_lt h]
theorem value_from (s : ByteArray) (hs : s.size ≤ 140737488351232) : ∀ (d pos : Nat), s.size - pos ≤ d → pos ≤ s.size →
    Ev (fun k => spec_l19Value.l0 k s (pos : Int)) (decide (1 ≤ s.size ∧ s.size ≤ 9) && (s.data.toList.drop pos).all Hand.digitB) := by
  have last : ∀ pos : Nat, pos = s.size → Ev (fun k => spec_l19Value.l0 k s (pos : Int)) (decide (1 ≤ s.size ∧ s.size ≤ 9) && (s.data.toList.drop pos).all Hand.digitB) := by
    intro pos hp
    refine ev_unroll ?_
    simp only [spec_l19Value.l0, if_neg (show ¬ (pos : Int) < (s.size : Int) by omega), l1In_eq, Option.bind_some]
    refine ev_eq (Ev.now _) ?_
    rw [List.drop_eq_nil_of_le (by rw [hp]; exact Nat.le_of_eq (Lib.size_eq s).symm), List.all_nil, Bool.and_true, decide_eq_decide]
    omega
  intro d
  induction d with
  | zero => exact fun pos hd hp => last pos (by omega)
  | succ d ih =>
    intro pos hd hp
    by_cases hlt : pos < s.size
    · have hl : s.data.toList.length = s.size := (Lib.size_eq s).symm
      have q := ih (pos + 1) (by omega) (by omega)
      have hb := Aside0.mk (bt_get s pos hlt)
      have hw := Aside0.mk (show wrap64 ((pos : Int) + 1) = ((pos + 1 : Nat) : Int) from (w64 (by omega) (by omega)).trans (by omega))
      have k0 := (s.get! pos).toNat_lt
      have e1 : s.data.toList.drop pos = s.get! pos :: s.data.toList.drop (pos + 1) := by
        rw [List.drop_eq_getElem_cons (show pos < s.data.toList.length by omega)]
        congr 1
        rw [Utf8W.get!_of_lt s pos hlt]
        rfl
      have e2 : Hand.digitB (s.get! pos) = decide (48 ≤ (s.get! pos).toNat ∧ (s.get! pos).toNat ≤ 57) := rfl
      rw [e1, List.all_cons, e2]
      generalize (s.get! pos).toNat = b0 at hb k0
      refine ev_unroll ?_
      simp only [spec_l19Value.l0, if_pos (show (pos : Int) < (s.size : Int) by omega), if_pos (show (0 : Int) ≤ (pos : Int) by omega), hb.out, hw.out]
      by_cases c0 : (b0 : Int) < 48
      · simp only [if_pos c0]
        refine ev_eq (Ev.now _) ?_
        rw [decide_eq_false (show ¬ (48 ≤ b0 ∧ b0 ≤ 57) by omega), Bool.false_and, Bool.and_false]
      simp only [if_neg c0]
      by_cases c1 : (b0 : Int) > 57
      · simp only [if_pos c1]
        refine ev_eq (Ev.now _) ?_
        rw [decide_eq_false (show ¬ (48 ≤ b0 ∧ b0 ≤ 57) by omega), Bool.false_and, Bool.and_false]
      simp only [if_neg c1]
      rw [decide_eq_true (show 48 ≤ b0 ∧ b0 ≤ 57 by omega), Bool.true_and]
      exact q
    · exact last pos (by omega)
theorem value_ev (s : ByteArray) (hs : s.size ≤ 140737488351232) : Ev (fun k => spec_l19Value.f k s) (Hand.valueB s) := by
  unfold spec_l19Value.f Hand.valueB
  refine Ev.bind (word_ev s hs) ?_
  cases hw : Hand.wordB s
  · simp only [Bool.false_eq_true, if_false, Bool.false_or]
    have h := value_from s hs s.size 0 (by omega) (by omega)
    simp only [List.drop_zero] at h
    exact h
  · simp only [if_true, Bool.true_or]
    exact Ev.now _
theorem impl_value_ev (s : ByteArray) (hs : s.size ≤ 140737488351232) : Ev (fun k => impl_valueOk.f k s) (Hand.valueB s) := by
  refine ⟨0, fun k _ => ?_⟩
  simp only [impl_valueOk.f, if_pos hs]
/-- The same setting, as the reference's type has it. -/
def cv (x : S42) : S38 := ⟨x.f0, x.f1⟩
def Small (l : List S38) : Prop := l.length ≤ 1048576 ∧ ∀ x ∈ l, x.f0.size ≤ 1048576 ∧ x.f1.size ≤ 1048576
theorem rd38_mem (l : List S38) (i : Nat) (h : i < l.length) : rd_T38 l (i : Int) ∈ l := by
  have e : rd_T38 l (i : Int) = l[i] := by simp [rd_T38, h]
  rw [e]; exact List.getElem_mem h
/-- Both sides of SettingsOk. -/
theorem settings_from (l : List S38) (hl : Small l) : ∀ (d i : Nat), l.length - i ≤ d → i ≤ l.length →
    ∃ b, Ev (fun k => spec_SettingsOk.l0 k l (i : Int)) b ∧ Ev (fun k => impl_SettingsOk.l0 k l l (l.length : Int) (i : Int)) b := by
  have hn := hl.1
  have last : ∀ i : Nat, i = l.length → ∃ b, Ev (fun k => spec_SettingsOk.l0 k l (i : Int)) b ∧ Ev (fun k => impl_SettingsOk.l0 k l l (l.length : Int) (i : Int)) b := by
    intro i hi
    refine ⟨decide ((l.length : Int) ≤ 40), ev_unroll ?_, ev_unroll ?_⟩
    · simp only [spec_SettingsOk.l0, if_neg (show ¬ (i : Int) < (l.length : Int) by omega)]
      exact Ev.now _
    · simp only [impl_SettingsOk.l0, if_neg (show ¬ (i : Int) < (l.length : Int) by omega)]
      exact Ev.now _
  intro d
  induction d with
  | zero => exact fun i hd hi => last i (by omega)
  | succ d ih =>
    intro i hd hi
    by_cases hlt : i < l.length
    · obtain ⟨s0, s1⟩ := hl.2 _ (rd38_mem l i hlt)
      have hw := Aside0.mk (show wrap64 ((i : Int) + 1) = ((i + 1 : Nat) : Int) from (w64 (by omega) (by omega)).trans (by omega))
      have hw2 := Aside0.mk (show wrap64 ((i : Int) - 1) = (i : Int) - 1 from w64 (by omega) (by omega))
      obtain ⟨b, p, q⟩ := ih (i + 1) (by omega) (by omega)
      have hi1 : (i : Int) < (l.length : Int) := by omega
      have hi0 : (0 : Int) ≤ (i : Int) := by omega
      have w1 := word_ev (rd_T38 l (i : Int)).f0 (by omega)
      have w2 := impl_word_ev (rd_T38 l (i : Int)).f0 (by omega)
      have v1 := value_ev (rd_T38 l (i : Int)).f1 (by omega)
      have v2 := impl_value_ev (rd_T38 l (i : Int)).f1 (by omega)
      cases hW : Hand.wordB (rd_T38 l (i : Int)).f0
      · rw [hW] at w1 w2
        refine ⟨false, ev_unroll ?_, ev_unroll ?_⟩
        · simp only [spec_SettingsOk.l0, if_pos hi1, if_pos hi0]
          refine Ev.bind w1 ?_
          simp only [Bool.false_eq_true, if_false]
          exact Ev.now _
        · simp only [impl_SettingsOk.l0, if_pos hi1, if_pos hi0]
          refine Ev.bind w2 ?_
          simp only [Bool.false_eq_true, if_false]
          exact Ev.now _
      rw [hW] at w1 w2
      cases hV : Hand.valueB (rd_T38 l (i : Int)).f1
      · rw [hV] at v1 v2
        refine ⟨false, ev_unroll ?_, ev_unroll ?_⟩
        · simp only [spec_SettingsOk.l0, if_pos hi1, if_pos hi0]
          refine Ev.bind w1 ?_
          simp only [if_true]
          refine Ev.bind v1 ?_
          simp only [Bool.false_eq_true, if_false]
          exact Ev.now _
        · simp only [impl_SettingsOk.l0, if_pos hi1, if_pos hi0]
          refine Ev.bind w2 ?_
          simp only [if_true]
          refine Ev.bind v2 ?_
          simp only [Bool.false_eq_true, if_false]
          exact Ev.now _
      rw [hV] at v1 v2
      by_cases hz : (i : Int) > 0
      · have hj : (0 : Int) ≤ (i : Int) - 1 := by omega
        have hj2 : (i : Int) - 1 < (l.length : Int) := by omega
        by_cases hc : Op.bytesLess (rd_T38 l ((i : Int) - 1)).f0.toList (rd_T38 l (i : Int)).f0.toList = true
        · refine ⟨b, ev_unroll ?_, ev_unroll ?_⟩
          · simp only [spec_SettingsOk.l0, if_pos hi1, if_pos hi0]
            refine Ev.bind w1 ?_
            simp only [if_true]
            refine Ev.bind v1 ?_
            simp only [if_true, if_pos hz, hw2.out, if_pos hj, if_pos hj2, if_pos hc, hw.out]
            exact p
          · simp only [impl_SettingsOk.l0, if_pos hi1, if_pos hi0]
            refine Ev.bind w2 ?_
            simp only [if_true]
            refine Ev.bind v2 ?_
            simp only [if_true, if_pos hz, hw2.out, if_pos hj, if_pos hj2, if_pos hc, hw.out]
            exact q
        · refine ⟨false, ev_unroll ?_, ev_unroll ?_⟩
          · simp only [spec_SettingsOk.l0, if_pos hi1, if_pos hi0]
            refine Ev.bind w1 ?_
            simp only [if_true]
            refine Ev.bind v1 ?_
            simp only [if_true, if_pos hz, hw2.out, if_pos hj, if_pos hj2, if_neg hc]
            exact Ev.now _
          · simp only [impl_SettingsOk.l0, if_pos hi1, if_pos hi0]
            refine Ev.bind w2 ?_
            simp only [if_true]
            refine Ev.bind v2 ?_
            simp only [if_true, if_pos hz, hw2.out, if_pos hj, if_pos hj2, if_neg hc]
            exact Ev.now _
      · refine ⟨b, ev_unroll ?_, ev_unroll ?_⟩
        · simp only [spec_SettingsOk.l0, if_pos hi1, if_pos hi0]
          refine Ev.bind w1 ?_
          simp only [if_true]
          refine Ev.bind v1 ?_
          simp only [if_true, if_neg hz, hw.out]
          exact p
        · simp only [impl_SettingsOk.l0, if_pos hi1, if_pos hi0]
          refine Ev.bind w2 ?_
          simp only [if_true]
          refine Ev.bind v2 ?_
          simp only [if_true, if_neg hz, hw.out]
          exact q
    · exact last i (by omega)
theorem settings_both (l : List S38) (hl : Small l) : ∃ b, Ev (fun k => spec_SettingsOk.f k l) b ∧ Ev (fun k => impl_SettingsOk.f k l) b :=
  settings_from l hl l.length 0 (by omega) (by omega)
theorem szSetting_some (a b : ByteArray) (x : Int) (ha : a.size ≤ 9223372036854775807) (hb : b.size ≤ 9223372036854775807) (x0 : 0 ≤ x) (x1 : x ≤ 1048576) :
    ∃ v, laws_szSetting.f a b x = some v ∧ (v < 0 ∨ (0 ≤ v ∧ v ≤ 1048576 ∧ a.size ≤ 1048576 ∧ b.size ≤ 1048576)) := by
  have h1 := Aside0.mk (show wrap64 (x - (a.size : Int)) = x - (a.size : Int) from w64 (by omega) (by omega))
  unfold laws_szSetting.f
  rw [h1.out]
  by_cases c : x - (a.size : Int) < 0
  · exact ⟨-1, by rw [if_pos c], .inl (by decide)⟩
  · have h2 := Aside0.mk (show wrap64 (x - (a.size : Int) - (b.size : Int)) = x - (a.size : Int) - (b.size : Int) from w64 (by omega) (by omega))
    rw [if_neg c, h2.out]
    by_cases c2 : x - (a.size : Int) - (b.size : Int) < 0
    · exact ⟨-1, by rw [if_pos c2], .inl (by decide)⟩
    · exact ⟨_, by rw [if_neg c2], .inr ⟨by omega, by omega, by omega, by omega⟩⟩
/-- What comes in is small, or the law says true at once. -/
theorem sz_ev (l : List S42) (hm : l.length ≤ 9223372036854775807) (hs : ∀ x ∈ l, x.f0.size ≤ 9223372036854775807 ∧ x.f1.size ≤ 9223372036854775807) : ∃ v, Ev (fun k => laws_szSettingS.f k l 1048576) v ∧ (¬ v < 0 → Small (l.map cv)) := by
  have key : ∀ (d i : Nat) (x : Int), l.length - i ≤ d → i ≤ l.length → l.length ≤ 1048576 → 0 ≤ x → x ≤ 1048576 → ∃ v, Ev (fun k => laws_szSettingS.l0 k l x (i : Int)) v ∧ (¬ v < 0 → ∀ y ∈ l.drop i, y.f0.size ≤ 1048576 ∧ y.f1.size ≤ 1048576) := by
    have last : ∀ (i : Nat) (x : Int), i = l.length → ∃ v, Ev (fun k => laws_szSettingS.l0 k l x (i : Int)) v ∧ (¬ v < 0 → ∀ y ∈ l.drop i, y.f0.size ≤ 1048576 ∧ y.f1.size ≤ 1048576) := by
      intro i x hi
      refine ⟨x, ev_unroll ?_, fun _ y hy => ?_⟩
      · simp only [laws_szSettingS.l0, if_neg (show ¬ (i : Int) < (l.length : Int) by omega)]
        exact Ev.now _
      · rw [hi, List.drop_length] at hy; cases hy
    intro d
    induction d with
    | zero => exact fun i x hd hi _ _ _ => last i x (by omega)
    | succ d ih =>
      intro i x hd hi hn hx0 hx1
      by_cases hlt : i < l.length
      · have e1 : rd_T42 l (i : Int) = l[i] := by simp [rd_T42, hlt]
        obtain ⟨sa, sb⟩ := hs _ (List.getElem_mem hlt)
        have hw := Aside0.mk (show wrap64 ((i : Int) + 1) = ((i + 1 : Nat) : Int) from (w64 (by omega) (by omega)).trans (by omega))
        obtain ⟨v, ev, hv⟩ := szSetting_some l[i].f0 l[i].f1 x sa sb hx0 hx1
        rcases hv with hv | ⟨v0, v1, s0, s1⟩
        · refine ⟨-1, ev_unroll ?_, fun h => absurd (by decide) h⟩
          simp only [laws_szSettingS.l0, if_pos (show (i : Int) < (l.length : Int) by omega), if_pos (show (0 : Int) ≤ (i : Int) by omega), e1, ev, Option.bind_some, if_pos hv]
          exact Ev.now _
        · obtain ⟨z, q, hz⟩ := ih (i + 1) v (by omega) (by omega) hn v0 v1
          refine ⟨z, ev_unroll ?_, fun h y hy => ?_⟩
          · simp only [laws_szSettingS.l0, if_pos (show (i : Int) < (l.length : Int) by omega), if_pos (show (0 : Int) ≤ (i : Int) by omega), e1, ev, Option.bind_some, if_neg (show ¬ v < 0 by omega), hw.out]
            exact q
          · rw [List.drop_eq_getElem_cons hlt] at hy
            rcases List.mem_cons.1 hy with rfl | hy
            · exact ⟨s0, s1⟩
            · exact hz h y hy
      · exact last i x (by omega)
  unfold laws_szSettingS.f
  rw [w64 (x := 1048576 - (l.length : Int)) (by omega) (by omega)]
  by_cases h0 : 1048576 - (l.length : Int) < 0
  · refine ⟨-1, ?_, fun h => absurd (by decide) h⟩
    simp only [if_pos h0]
    exact Ev.now _
  · obtain ⟨v, q, hv⟩ := key l.length 0 (1048576 - (l.length : Int)) (by omega) (by omega) (by omega) (by omega) (by omega)
    refine ⟨v, ?_, fun h => ⟨by rw [List.length_map]; omega, fun y hy => ?_⟩⟩
    · simp only [if_neg h0]
      exact q
    · obtain ⟨z, hz, rfl⟩ := List.mem_map.1 hy
      exact hv h z (by simpa using hz)
/-- A copy. -/
theorem toSettingS_ev (l : List S42) (hn : l.length ≤ 1048576) : Ev (fun k => laws_toSettingS.f k l) (l.map cv) := by
  have key : ∀ (d i : Nat) (m : List S38), l.length - i ≤ d → i ≤ l.length → m.length = l.length → m.take i = (l.map cv).take i → Ev (fun k => laws_toSettingS.l0 k l m (i : Int)) (l.map cv) := by
    have last : ∀ (i : Nat) (m : List S38), i = l.length → m.length = l.length → m.take i = (l.map cv).take i → Ev (fun k => laws_toSettingS.l0 k l m (i : Int)) (l.map cv) := by
      intro i m hi hm ht
      refine ev_unroll ?_
      simp only [laws_toSettingS.l0, if_neg (show ¬ (i : Int) < (l.length : Int) by omega)]
      refine ev_eq (Ev.now _) ?_
      rw [List.take_of_length_le (by omega), List.take_of_length_le (by rw [List.length_map]; omega)] at ht
      exact ht
    intro d
    induction d with
    | zero => exact fun i m hd hi hm ht => last i m (by omega) hm ht
    | succ d ih =>
      intro i m hd hi hm ht
      by_cases hlt : i < l.length
      · have e1 : rd_T42 l (i : Int) = l[i] := by simp [rd_T42, hlt]
        have hw := Aside0.mk (show wrap64 ((i : Int) + 1) = ((i + 1 : Nat) : Int) from (w64 (by omega) (by omega)).trans (by omega))
        have e2 : (⟨l[i].f0, l[i].f1⟩ : S38) = (l.map cv).getD i z38 := by simp [cv, hlt]
        have q := ih (i + 1) (m.set i ((l.map cv).getD i z38)) (by omega) (by omega) (by simpa using hm) (take_set_succ z38 (by rw [List.length_map]; exact hm) ht (by rw [List.length_map]; exact hlt))
        refine ev_unroll ?_
        simp only [laws_toSettingS.l0, if_pos (show (i : Int) < (l.length : Int) by omega), if_pos (show (0 : Int) ≤ (i : Int) by omega), e1, laws_toSetting.f, Option.bind_some, if_pos (show (i : Int) < (m.length : Int) by omega), Int.toNat_natCast, e2, hw.out]
        exact q
      · exact last i m (by omega) hm ht
  unfold laws_toSettingS.f
  simp only [if_pos (show (0 : Int) ≤ (l.length : Int) by omega), Int.toNat_natCast, if_pos (show l.length ≤ 8796093022208 by omega)]
  exact key l.length 0 _ (by omega) (by omega) (by simp) (by simp)
theorem eqSettingS_ev (l : List S38) (hn : l.length ≤ 1048576) : Ev (fun k => laws_eqSettingS.f k l l) true := by
  have key : ∀ (d i : Nat), l.length - i ≤ d → i ≤ l.length → Ev (fun k => laws_eqSettingS.l0 k l l (i : Int)) true := by
    have last : ∀ i : Nat, i = l.length → Ev (fun k => laws_eqSettingS.l0 k l l (i : Int)) true := by
      intro i hi
      refine ev_unroll ?_
      simp only [laws_eqSettingS.l0, if_neg (show ¬ (i : Int) < (l.length : Int) by omega)]
      exact Ev.now _
    intro d
    induction d with
    | zero => exact fun i hd hi => last i (by omega)
    | succ d ih =>
      intro i hd hi
      by_cases hlt : i < l.length
      · have hw := Aside0.mk (show wrap64 ((i : Int) + 1) = ((i + 1 : Nat) : Int) from (w64 (by omega) (by omega)).trans (by omega))
        have q := ih (i + 1) (by omega) (by omega)
        refine ev_unroll ?_
        simp only [laws_eqSettingS.l0, if_pos (show (i : Int) < (l.length : Int) by omega), if_pos (show (0 : Int) ≤ (i : Int) by omega), laws_eqSetting.f, if_true, Option.bind_some, hw.out]
        exact q
      · exact last i (by omega)
  unfold laws_eqSettingS.f
  simp only [if_true]
  exact key l.length 0 (by omega) (by omega)
theorem bl_cons (a b : UInt8) (x y : List UInt8) : Op.bytesLess (a :: x) (b :: y) = (decide (a < b) || (a == b && Op.bytesLess x y)) := rfl
theorem bl_irrefl : ∀ x : List UInt8, Op.bytesLess x x = false := by
  intro x
  induction x with
  | nil => rfl
  | cons a x ih => rw [bl_cons, ih]; simp
theorem bl_trans : ∀ x y z : List UInt8, Op.bytesLess x y = true → Op.bytesLess y z = true → Op.bytesLess x z = true := by
  intro x
  induction x with
  | nil =>
    intro y z h1 h2
    cases z with
    | nil => cases y <;> cases h2
    | cons c z => rfl
  | cons a x ih =>
    intro y z h1 h2
    cases y with
    | nil => cases h1
    | cons b y =>
      cases z with
      | nil => cases h2
      | cons c z =>
        rw [bl_cons] at h1 h2 ⊢
        simp only [Bool.or_eq_true, Bool.and_eq_true, decide_eq_true_eq, beq_iff_eq] at h1 h2 ⊢
        rcases h1 with h1 | ⟨e1, h1⟩ <;> rcases h2 with h2 | ⟨e2, h2⟩
        · exact .inl (by rw [UInt8.lt_iff_toNat_lt] at h1 h2 ⊢; omega)
        · exact .inl (by rw [← e2]; exact h1)
        · exact .inl (by rw [e1]; exact h2)
        · exact .inr ⟨e1.trans e2, ih y z h1 h2⟩
/-- What SettingsOk says yes to rises. -/
theorem rise_of (l : List S38) (hl : l.length ≤ 1048576) : ∀ (k i : Nat), spec_SettingsOk.l0 k l (i : Int) = some true → ∀ j, i ≤ j → j < l.length → 0 < j → Op.bytesLess (rd_T38 l ((j : Int) - 1)).f0.toList (rd_T38 l (j : Int)).f0.toList = true := by
  intro k
  induction k with
  | zero => intro i h; simp [spec_SettingsOk.l0] at h
  | succ k ih =>
    intro i h j hij hj h0
    have hw := Aside0.mk (show wrap64 ((i : Int) + 1) = ((i + 1 : Nat) : Int) from (w64 (by omega) (by omega)).trans (by omega))
    simp only [spec_SettingsOk.l0, if_pos (show (i : Int) < (l.length : Int) by omega), if_pos (show (0 : Int) ≤ (i : Int) by omega), hw.out] at h
    obtain ⟨t, _, h⟩ := Option.bind_eq_some_iff.mp h
    cases t
    · simp at h
    simp only [if_true] at h
    obtain ⟨t, _, h⟩ := Option.bind_eq_some_iff.mp h
    cases t
    · simp at h
    simp only [if_true] at h
    by_cases hz : (i : Int) > 0
    · have hw2 := Aside0.mk (show wrap64 ((i : Int) - 1) = (i : Int) - 1 from w64 (by omega) (by omega))
      simp only [if_pos hz, hw2.out, if_pos (show (0 : Int) ≤ (i : Int) - 1 by omega), if_pos (show (i : Int) - 1 < (l.length : Int) by omega)] at h
      by_cases hc : Op.bytesLess (rd_T38 l ((i : Int) - 1)).f0.toList (rd_T38 l (i : Int)).f0.toList = true
      · rw [if_pos hc] at h
        by_cases e : j = i
        · subst e; exact hc
        · exact ih (i + 1) h j (by omega) hj h0
      · rw [if_neg hc] at h
        simp at h
    · rw [if_neg hz] at h
      exact ih (i + 1) h j (by omega) hj h0
theorem rise_all (l : List S38) (h : ∀ j : Nat, j < l.length → 0 < j → Op.bytesLess (rd_T38 l ((j : Int) - 1)).f0.toList (rd_T38 l (j : Int)).f0.toList = true) : ∀ i j : Nat, i < j → j < l.length → Op.bytesLess (rd_T38 l (i : Int)).f0.toList (rd_T38 l (j : Int)).f0.toList = true := by
  intro i j
  induction j with
  | zero => intro hij; omega
  | succ j ih =>
    intro hij hj
    have h1 := h (j + 1) hj (by omega)
    rw [show ((j + 1 : Nat) : Int) - 1 = (j : Int) by omega] at h1
    by_cases e : i = j
    · subst e; exact h1
    · exact bl_trans _ _ _ (ih (by omega) (by omega)) h1
theorem rd38_get (l : List S38) (i : Nat) (h : i < l.length) : rd_T38 l (i : Int) = l[i] := by simp [rd_T38, h]
/-- Where the list rises, what the map says of a name is the setting that has it. -/
theorem look_at (l : List S38) (n : ByteArray) (i : Nat) (hi : i < l.length) (hn : l[i].f0 = n) (hu : ∀ j (hj : j < l.length), l[j].f0 = n → j = i) : Hand.look l n = (l[i].f1, true) := by
  unfold Hand.look
  cases h : l.reverse.find? (fun s => decide (s.f0 = n)) with
  | none =>
    have := List.find?_eq_none.mp h l[i] (by simp)
    simp [hn] at this
  | some s =>
    have h1 := List.find?_some h
    have h2 := List.mem_of_find?_eq_some h
    rw [List.mem_reverse] at h2
    obtain ⟨j, hj, rfl⟩ := List.mem_iff_getElem.mp h2
    have h3 := hu j hj (by simpa using h1)
    subst h3
    rfl
theorem look_none (l : List S38) (n : ByteArray) (h : ∀ x ∈ l, x.f0 ≠ n) : Hand.look l n = (⟨#[]⟩, false) := by
  unfold Hand.look
  rw [List.find?_eq_none.mpr]
  intro x hx
  rw [List.mem_reverse] at hx
  simpa using h x hx
theorem tl_eq (a b : ByteArray) : a.toList = b.toList ↔ a = b := by
  constructor
  · intro h
    rw [Lib.toList_data, Lib.toList_data] at h
    exact Hand.bytes_ext h
  · intro h; rw [h]
/-- A list's names. -/
def N (l : List S38) : List (List UInt8) := l.map (fun s => s.f0.data.toList)
theorem N_length (l : List S38) : (N l).length = l.length := by simp [N]
theorem N_get (l : List S38) (i : Nat) (h : i < (N l).length) : (N l)[i] = (rd_T38 l (i : Int)).f0.data.toList := by
  rw [N_length] at h
  simp [N, rd_T38, h]
theorem N_drop (l : List S38) (i : Nat) (h : i < l.length) : (N l).drop i = (rd_T38 l (i : Int)).f0.data.toList :: (N l).drop (i + 1) := by
  have h2 : i < (N l).length := by rw [N_length]; exact h
  rw [List.drop_eq_getElem_cons h2, N_get]
theorem N_rise (l : List S38) (hl : l.length ≤ 1048576) (h : Ev (fun k => spec_SettingsOk.f k l) true) : (N l).Pairwise (· < ·) := by
  obtain ⟨K, hK⟩ := h
  have h1 := rise_of l hl K 0 (hK K (Nat.le_refl _))
  have h2 := rise_all l (fun j hj h0 => h1 j (by omega) hj h0)
  refine List.pairwise_iff_getElem.mpr (fun i j hi hj hij => ?_)
  have h3 := h2 i j hij (by rw [N_length] at hj; exact hj)
  rw [bytesLess_eq, decide_eq_true_eq, Lib.toList_data, Lib.toList_data] at h3
  rw [N_get, N_get]
  exact h3
theorem mkB (s : ByteArray) : (⟨s.data.toList.toArray⟩ : ByteArray) = s := Hand.bytes_ext (by simp)
theorem less_eq (a b : ByteArray) : Op.bytesLess a.toList b.toList = decide (a.data.toList < b.data.toList) := by
  rw [bytesLess_eq, Lib.toList_data, Lib.toList_data]
theorem look_in (l : List S38) (h : (N l).Pairwise (· < ·)) (i : Nat) (hi : i < l.length) : Hand.look l (rd_T38 l (i : Int)).f0 = ((rd_T38 l (i : Int)).f1, true) := by
  have e : rd_T38 l (i : Int) = l[i] := by simp [rd_T38, hi]
  rw [e]
  refine look_at l _ i hi rfl (fun j hj he => ?_)
  have hN : ∀ j (hj : j < l.length), (N l)[j]'(by rw [N_length]; exact hj) = l[j].f0.data.toList := fun j hj => by simp [N]
  rcases Nat.lt_trichotomy j i with h1 | h1 | h1
  · have := List.pairwise_iff_getElem.mp h j i (by rw [N_length]; exact hj) (by rw [N_length]; exact hi) h1
    rw [hN _ (by assumption), hN _ (by assumption), he] at this
    exact absurd this (List.lt_irrefl _)
  · exact h1
  · have := List.pairwise_iff_getElem.mp h i j (by rw [N_length]; exact hi) (by rw [N_length]; exact hj) h1
    rw [hN _ (by assumption), hN _ (by assumption), he] at this
    exact absurd this (List.lt_irrefl _)
theorem look_out (l : List S38) (n : ByteArray) (h : n.data.toList ∉ N l) : Hand.look l n = (⟨#[]⟩, false) := by
  refine look_none l n (fun x hx e => h ?_)
  unfold N
  exact List.mem_map.mpr ⟨x, hx, by rw [e]⟩
/-- The first of a row that rises. -/
theorem head_of {R : List (List UInt8)} {a : List UInt8} (hR : R.Pairwise (· < ·)) (ha : a ∈ R) (hm : ∀ x ∈ R, ¬ x < a) : ∃ R', R = a :: R' := by
  cases R with
  | nil => cases ha
  | cons h R' =>
    rcases List.mem_cons.mp ha with rfl | ha
    · exact ⟨R', rfl⟩
    · exact absurd ((List.pairwise_cons.mp hR).1 a ha) (hm h (by simp))
theorem drop_ge {M : List (List UInt8)} (h : M.Pairwise (· < ·)) {a : List UInt8} {T : List (List UInt8)} {i : Nat} (e : M.drop i = a :: T) : (∀ x ∈ M.drop i, ¬ x < a) ∧ a ∉ T ∧ (∀ x ∈ T, a < x) := by
  have hp : (a :: T).Pairwise (· < ·) := by rw [← e]; exact h.sublist (List.drop_sublist _ _)
  have h1 := (List.pairwise_cons.mp hp).1
  refine ⟨fun x hx => ?_, fun hm => List.lt_irrefl _ (h1 a hm), h1⟩
  rw [e] at hx
  rcases List.mem_cons.mp hx with rfl | hx
  · exact List.lt_irrefl _
  · exact List.lt_asymm (h1 x hx)
/-- A list that is right, as the reference asks. -/
theorem settings_spec_true (l : List S38) (hl : Small l) (h40 : l.length ≤ 40) (hw : ∀ x ∈ l, Hand.wordB x.f0 = true ∧ Hand.valueB x.f1 = true) (hr : ∀ j : Nat, j < l.length → 0 < j → Op.bytesLess (rd_T38 l ((j : Int) - 1)).f0.toList (rd_T38 l (j : Int)).f0.toList = true) :
    ∀ (d i : Nat), l.length - i ≤ d → i ≤ l.length → Ev (fun k => spec_SettingsOk.l0 k l (i : Int)) true := by
  have hn := hl.1
  have last : ∀ i : Nat, i = l.length → Ev (fun k => spec_SettingsOk.l0 k l (i : Int)) true := by
    intro i hi
    refine ev_unroll ?_
    simp only [spec_SettingsOk.l0, if_neg (show ¬ (i : Int) < (l.length : Int) by omega)]
    exact ev_eq (Ev.now _) (decide_eq_true (by omega))
  intro d
  induction d with
  | zero => exact fun i hd hi => last i (by omega)
  | succ d ih =>
    intro i hd hi
    by_cases hlt : i < l.length
    · obtain ⟨s0, s1⟩ := hl.2 _ (rd38_mem l i hlt)
      obtain ⟨hW, hV⟩ := hw _ (rd38_mem l i hlt)
      have hri := hr i hlt
      have hw1 := Aside0.mk (show wrap64 ((i : Int) + 1) = ((i + 1 : Nat) : Int) from (w64 (by omega) (by omega)).trans (by omega))
      have hw2 := Aside0.mk (show wrap64 ((i : Int) - 1) = (i : Int) - 1 from w64 (by omega) (by omega))
      have p := ih (i + 1) (by omega) (by omega)
      have hi1 : (i : Int) < (l.length : Int) := by omega
      have hi0 : (0 : Int) ≤ (i : Int) := by omega
      have w1 := word_ev (rd_T38 l (i : Int)).f0 (by omega)
      have v1 := value_ev (rd_T38 l (i : Int)).f1 (by omega)
      rw [hW] at w1
      rw [hV] at v1
      refine ev_unroll ?_
      simp only [spec_SettingsOk.l0, if_pos hi1, if_pos hi0]
      refine Ev.bind w1 ?_
      simp only [if_true]
      refine Ev.bind v1 ?_
      by_cases hz : (i : Int) > 0
      · have hj : (0 : Int) ≤ (i : Int) - 1 := by omega
        have hj2 : (i : Int) - 1 < (l.length : Int) := by omega
        simp only [if_true, if_pos hz, hw2.out, if_pos hj, if_pos hj2, if_pos (hri (by omega)), hw1.out]
        exact p
      · simp only [if_true, if_neg hz, hw1.out]
        exact p
    · exact last i (by omega)
theorem rise_less {l : List S38} (h : Hand.Rise l) (j : Nat) (hj : j < l.length) (h0 : 0 < j) : Op.bytesLess (rd_T38 l ((j : Int) - 1)).f0.toList (rd_T38 l (j : Int)).f0.toList = true := by
  have e1 : rd_T38 l (j : Int) = l[j] := rd38_get l j hj
  have e2 : rd_T38 l ((j : Int) - 1) = l[j - 1] := by
    rw [show (j : Int) - 1 = ((j - 1 : Nat) : Int) by omega]
    exact rd38_get l (j - 1) (by omega)
  rw [e1, e2, bytesLess_eq, decide_eq_true_eq, Lib.toList_data, Lib.toList_data]
  exact List.pairwise_iff_getElem.mp h (j - 1) j (by omega) hj (by omega)
theorem settings_true (l : List S38) (hl : Small l) (h40 : l.length ≤ 40) (hw : ∀ x ∈ l, Hand.wordB x.f0 = true ∧ Hand.valueB x.f1 = true) (hr : Hand.Rise l) :
    Ev (fun k => spec_SettingsOk.f k l) true ∧ Ev (fun k => impl_SettingsOk.f k l) true := by
  obtain ⟨b, p, q⟩ := settings_both l hl
  have h := settings_spec_true l hl h40 hw (fun j hj h0 => rise_less hr j hj h0) l.length 0 (by omega) (by omega)
  have e := ev_unique p h
  subst e
  exact ⟨p, q⟩
theorem delS_here {s : S38} {r : List S38} {n : ByteArray} (h : s.f0 = n) : Hand.delS (s :: r) n = Hand.delS r n := by simp [Hand.delS, h]
theorem delS_past {s : S38} {r : List S38} {n : ByteArray} (h : ¬ s.f0 = n) : Hand.delS (s :: r) n = s :: Hand.delS r n := by simp [Hand.delS, h]
theorem set_rest (L : List S38) (hl : L.length ≤ 1048576) (n v : ByteArray) : ∀ (d i : Nat) (out : List S38), L.length - i ≤ d → i ≤ L.length → out.length + (L.length - i) ≤ 2097153 →
    Ev (fun k => spec_l19Set.l0 k L out true (i : Int) n v) (out ++ Hand.delS (L.drop i) n) := by
  have last : ∀ (i : Nat) (out : List S38), i = L.length → Ev (fun k => spec_l19Set.l0 k L out true (i : Int) n v) (out ++ Hand.delS (L.drop i) n) := by
    intro i out hi
    refine ev_unroll ?_
    simp only [spec_l19Set.l0, if_neg (show ¬ (i : Int) < (L.length : Int) by omega), if_true]
    refine ev_eq (Ev.now _) ?_
    rw [hi, List.drop_length]
    simp [Hand.delS]
  intro d
  induction d with
  | zero => exact fun i out hd hi _ => last i out (by omega)
  | succ d ih =>
    intro i out hd hi ho
    by_cases hlt : i < L.length
    · have e1 : rd_T38 L (i : Int) = L[i] := rd38_get L i hlt
      have hw := Aside0.mk (show wrap64 ((i : Int) + 1) = ((i + 1 : Nat) : Int) from (w64 (by omega) (by omega)).trans (by omega))
      refine ev_unroll ?_
      simp only [spec_l19Set.l0, if_pos (show (i : Int) < (L.length : Int) by omega), if_true]
      refine ev_unroll ?_
      simp only [spec_l19Set.j1, Bool.false_eq_true, if_false, if_pos (show (0 : Int) ≤ (i : Int) by omega), if_pos (show (i : Int) < (L.length : Int) by omega), e1, tl_eq, hw.out]
      have ed : L.drop i = L[i] :: L.drop (i + 1) := List.drop_eq_getElem_cons hlt
      by_cases c : L[i].f0 = n
      · simp only [if_pos c]
        refine ev_eq (ih (i + 1) out (by omega) (by omega) (by omega)) ?_
        rw [ed, delS_here c]
      · simp only [if_neg c, if_pos (show out.length < 4398046511104 by omega)]
        refine ev_eq (ih (i + 1) (out ++ [L[i]]) (by omega) (by omega) (by rw [List.length_append, List.length_singleton]; omega)) ?_
        rw [ed, delS_past c, List.append_assoc]
        rfl
    · exact last i out (by omega)
theorem set_from (L : List S38) (hl : L.length ≤ 1048576) (hr : Hand.Rise L) (x : S38) : ∀ (d i : Nat) (out : List S38), L.length - i ≤ d → i ≤ L.length → out.length + (L.length - i) ≤ 1048577 →
    Ev (fun k => spec_l19Set.l0 k L out false (i : Int) x.f0 x.f1) (out ++ Hand.setS (L.drop i) x) := by
  have last : ∀ (i : Nat) (out : List S38), i = L.length → out.length ≤ 1048577 → Ev (fun k => spec_l19Set.l0 k L out false (i : Int) x.f0 x.f1) (out ++ Hand.setS (L.drop i) x) := by
    intro i out hi ho
    refine ev_unroll ?_
    simp only [spec_l19Set.l0, if_neg (show ¬ (i : Int) < (L.length : Int) by omega), Bool.false_eq_true, if_false, if_pos (show out.length < 4398046511104 by omega)]
    refine ev_eq (Ev.now _) ?_
    rw [hi, List.drop_length]
    rfl
  intro d
  induction d with
  | zero => exact fun i out hd hi ho => last i out (by omega) (by omega)
  | succ d ih =>
    intro i out hd hi ho
    by_cases hlt : i < L.length
    · have e1 : rd_T38 L (i : Int) = L[i] := rd38_get L i hlt
      have hw := Aside0.mk (show wrap64 ((i : Int) + 1) = ((i + 1 : Nat) : Int) from (w64 (by omega) (by omega)).trans (by omega))
      have ed : L.drop i = L[i] :: L.drop (i + 1) := List.drop_eq_getElem_cons hlt
      have hri : ∀ s ∈ L.drop (i + 1), Hand.keyL L[i] < Hand.keyL s := by
        have h2 : Hand.Rise (L.drop i) := List.Pairwise.sublist (List.drop_sublist _ _) hr
        rw [ed] at h2
        exact (List.pairwise_cons.mp h2).1
      refine ev_unroll ?_
      simp only [spec_l19Set.l0, if_pos (show (i : Int) < (L.length : Int) by omega), Bool.false_eq_true, if_false, if_pos (show (0 : Int) ≤ (i : Int) by omega), e1, less_eq]
      by_cases c : L[i].f0.data.toList < x.f0.data.toList
      · simp only [decide_eq_true c, Bool.not_true]
        refine ev_unroll ?_
        have hne : ¬ L[i].f0 = x.f0 := fun e => by rw [e] at c; exact List.lt_irrefl _ c
        simp only [spec_l19Set.j1, Bool.false_eq_true, if_false, if_pos (show (0 : Int) ≤ (i : Int) by omega), if_pos (show (i : Int) < (L.length : Int) by omega), e1, tl_eq, hw.out, if_neg hne, if_pos (show out.length < 4398046511104 by omega)]
        refine ev_eq (ih (i + 1) (out ++ [L[i]]) (by omega) (by omega) (by rw [List.length_append, List.length_singleton]; omega)) ?_
        have e3 : Hand.setS (L[i] :: L.drop (i + 1)) x = L[i] :: Hand.setS (L.drop (i + 1)) x := by
          unfold Hand.setS
          have e4 : Hand.delS (L[i] :: L.drop (i + 1)) x.f0 = L[i] :: Hand.delS (L.drop (i + 1)) x.f0 := delS_past hne
          rw [e4]
          conv => lhs; unfold Hand.insA
          rw [if_neg (fun hb => List.lt_asymm c (Hand.before_lt hb))]
        rw [ed, e3, List.append_assoc]
        rfl
      · simp only [decide_eq_false c, Bool.not_false]
        refine ev_unroll ?_
        simp only [spec_l19Set.j1, if_true, if_pos (show out.length < 4398046511104 by omega), Option.bind_some, if_pos (show (0 : Int) ≤ (i : Int) by omega), if_pos (show (i : Int) < (L.length : Int) by omega), e1, tl_eq, hw.out]
        have hgt : ∀ s ∈ Hand.delS (L[i] :: L.drop (i + 1)) x.f0, Hand.keyL x < Hand.keyL s := by
          intro s hs
          obtain ⟨h1, h2⟩ := List.mem_filter.mp hs
          have hne : s.f0 ≠ x.f0 := by simpa using h2
          have hle : Hand.keyL x ≤ Hand.keyL L[i] := List.not_lt.mp c
          have hne2 : Hand.keyL x ≠ Hand.keyL s := fun e => hne (Hand.bytes_inj e.symm)
          rcases List.mem_cons.mp h1 with rfl | h1
          · exact Hand.lt_tri _ _ c (fun e => hne2 e.symm)
          · exact List.lt_of_le_of_lt hle (hri s h1)
        have e3 : Hand.setS (L[i] :: L.drop (i + 1)) x = x :: Hand.delS (L[i] :: L.drop (i + 1)) x.f0 := Hand.insA_mid x _ hgt [] (fun s hs => by cases hs)
        by_cases c2 : L[i].f0 = x.f0
        · simp only [if_pos c2]
          refine ev_eq (set_rest L hl x.f0 x.f1 L.length (i + 1) (out ++ [x]) (by omega) (by omega) (by rw [List.length_append, List.length_singleton]; omega)) ?_
          rw [ed, e3, delS_here c2, List.append_assoc]
          rfl
        · simp only [if_neg c2, if_pos (show (out ++ [x]).length < 4398046511104 by rw [List.length_append, List.length_singleton]; omega)]
          refine ev_eq (set_rest L hl x.f0 x.f1 L.length (i + 1) (out ++ [x] ++ [L[i]]) (by omega) (by omega) (by rw [List.length_append, List.length_append, List.length_singleton, List.length_singleton]; omega)) ?_
          rw [ed, e3, delS_past c2, List.append_assoc, List.append_assoc]
          rfl
    · exact last i out (by omega) (by omega)
theorem set_ev (L : List S38) (hl : L.length ≤ 1048576) (hr : Hand.Rise L) (x : S38) : Ev (fun k => spec_l19Set.f k L x.f0 x.f1) (Hand.setS L x) := by
  have := set_from L hl hr x L.length 0 [] (by omega) (by omega) (by simp; omega)
  rw [List.nil_append, List.drop_zero] at this
  exact this
theorem asc_of_rise {L : List S38} (h : Hand.Rise L) : Hand.Asc L := h.imp fun h => Hand.lt_before h
theorem rise_of_asc {L : List S38} (h : Hand.Asc L) : Hand.Rise L := h.imp fun h => Hand.before_lt h
/-- What SettingsOk's yes tells of each setting. -/
theorem ok_from (l : List S38) (hl : Small l) : ∀ (k i : Nat), i ≤ l.length → spec_SettingsOk.l0 k l (i : Int) = some true → l.length ≤ 40 ∧ ∀ j, i ≤ j → j < l.length → Hand.wordB (rd_T38 l (j : Int)).f0 = true ∧ Hand.valueB (rd_T38 l (j : Int)).f1 = true := by
  have hn := hl.1
  intro k
  induction k with
  | zero => intro i _ h; simp [spec_SettingsOk.l0] at h
  | succ k ih =>
    intro i hi h
    by_cases hlt : i < l.length
    · obtain ⟨s0, s1⟩ := hl.2 _ (rd38_mem l i hlt)
      have hw := Aside0.mk (show wrap64 ((i : Int) + 1) = ((i + 1 : Nat) : Int) from (w64 (by omega) (by omega)).trans (by omega))
      have hw2 := Aside0.mk (show wrap64 ((i : Int) - 1) = (i : Int) - 1 from w64 (by omega) (by omega))
      simp only [spec_SettingsOk.l0, if_pos (show (i : Int) < (l.length : Int) by omega), if_pos (show (0 : Int) ≤ (i : Int) by omega), hw.out, hw2.out] at h
      obtain ⟨t, ht, h⟩ := Option.bind_eq_some_iff.mp h
      cases t
      · simp at h
      simp only [if_true] at h
      obtain ⟨t, hv, h⟩ := Option.bind_eq_some_iff.mp h
      cases t
      · simp at h
      simp only [if_true] at h
      have q : Hand.wordB (rd_T38 l (i : Int)).f0 = true ∧ Hand.valueB (rd_T38 l (i : Int)).f1 = true :=
        ⟨ev_unique (word_ev _ (by omega)) (Ev.of (fun k => spec_WordOk.mono _ k) ht), ev_unique (value_ev _ (by omega)) (Ev.of (fun k => spec_l19Value.mono _ k) hv)⟩
      have next : spec_SettingsOk.l0 k l ((i + 1 : Nat) : Int) = some true := by
        by_cases hz : (i : Int) > 0
        · simp only [if_pos hz, if_pos (show (0 : Int) ≤ (i : Int) - 1 by omega), if_pos (show (i : Int) - 1 < (l.length : Int) by omega)] at h
          by_cases hc : Op.bytesLess (rd_T38 l ((i : Int) - 1)).f0.toList (rd_T38 l (i : Int)).f0.toList = true
          · rw [if_pos hc] at h; exact h
          · rw [if_neg hc] at h; simp at h
        · rw [if_neg hz] at h; exact h
      obtain ⟨p1, p2⟩ := ih (i + 1) (by omega) next
      refine ⟨p1, fun j h1 h2 => ?_⟩
      by_cases e : j = i
      · subst e; exact q
      · exact p2 j (by omega) h2
    · simp only [spec_SettingsOk.l0, if_neg (show ¬ (i : Int) < (l.length : Int) by omega), Option.some.injEq, decide_eq_true_eq] at h
      exact ⟨by omega, fun j h1 h2 => by omega⟩
structure Okay (l : List S38) : Prop where
  rise : Hand.Rise l
  len : l.length ≤ 40
  wv : ∀ x ∈ l, Hand.wordB x.f0 = true ∧ Hand.valueB x.f1 = true
theorem okay_of (l : List S38) (hl : Small l) (h : Ev (fun k => spec_SettingsOk.f k l) true) : Okay l := by
  obtain ⟨K, hK⟩ := h
  obtain ⟨p1, p2⟩ := ok_from l hl K 0 (by omega) (hK K (Nat.le_refl _))
  refine ⟨List.pairwise_map.mp (N_rise l hl.1 ⟨K, hK⟩), p1, fun x hx => ?_⟩
  obtain ⟨j, hj, rfl⟩ := List.mem_iff_getElem.mp hx
  have := p2 j (by omega) hj
  rw [rd38_get l j hj] at this
  exact this
/-! ### what the reference's small functions answer -/
theorem at_from (L : List S38) (n : ByteArray) (hl : L.length ≤ 1048576) : ∀ (d i : Nat), L.length - i ≤ d → i ≤ L.length → (∀ j (hj : j < L.length), j < i → L[j].f0 ≠ n) → Ev (fun k => spec_l19At.l0 k L n (i : Int)) (Hand.atS L n) := by
  have last : ∀ i : Nat, i = L.length → (∀ j (hj : j < L.length), j < i → L[j].f0 ≠ n) → Ev (fun k => spec_l19At.l0 k L n (i : Int)) (Hand.atS L n) := by
    intro i hi hno
    refine ev_unroll ?_
    simp only [spec_l19At.l0, if_neg (show ¬ (i : Int) < (L.length : Int) by omega)]
    refine ev_eq (Ev.now _) ?_
    unfold Hand.atS
    rw [if_neg]
    intro hlt
    have h1 := List.findIdx_getElem (w := hlt)
    exact hno _ hlt (by omega) (by simpa using h1)
  intro d
  induction d with
  | zero => exact fun i hd hi h => last i (by omega) h
  | succ d ih =>
    intro i hd hi hno
    by_cases hlt : i < L.length
    · have e1 : rd_T38 L (i : Int) = L[i] := rd38_get L i hlt
      have hw := Aside0.mk (show wrap64 ((i : Int) + 1) = ((i + 1 : Nat) : Int) from (w64 (by omega) (by omega)).trans (by omega))
      refine ev_unroll ?_
      simp only [spec_l19At.l0, if_pos (show (i : Int) < (L.length : Int) by omega), if_pos (show (0 : Int) ≤ (i : Int) by omega), e1, tl_eq, hw.out]
      by_cases c : L[i].f0 = n
      · simp only [if_pos c]
        refine ev_eq (Ev.now _) ?_
        have hf : L.findIdx (fun s => decide (s.f0 = n)) = i := (List.findIdx_eq hlt).mpr ⟨by simpa using c, fun j hj => by simpa using hno j (by omega) hj⟩
        unfold Hand.atS
        rw [hf, if_pos hlt]
      · simp only [if_neg c]
        refine ih (i + 1) (by omega) (by omega) (fun j hj hji => ?_)
        by_cases e : j = i
        · subst e; exact c
        · exact hno j hj (by omega)
    · exact last i (by omega) hno
theorem at_ev (L : List S38) (n : ByteArray) (hl : L.length ≤ 1048576) : Ev (fun k => spec_l19At.f k L n) (Hand.atS L n) := at_from L n hl L.length 0 (by omega) (by omega) (fun j hj h => by omega)
theorem unset_eq (L : List S38) (n : ByteArray) (hr : Hand.Rise L) (hl : L.length ≤ 1048576) (h : 0 ≤ Hand.atS L n) : spec_l19Unset.f L (Hand.atS L n) = some (Hand.delS L n) := by
  have hlt := Hand.atS_lt L n h
  obtain ⟨i, hi⟩ : ∃ i : Nat, Hand.atS L n = i := ⟨(Hand.atS L n).toNat, by omega⟩
  have hg := (Hand.atS_get L n h).1
  rw [hi] at hg hlt ⊢
  have hlt2 : i < L.length := by omega
  have e1 : rd_T38 L (i : Int) = L[i] := rd38_get L i hlt2
  rw [e1] at hg
  have hw := Aside0.mk (show wrap64 ((i : Int) + 1) = ((i + 1 : Nat) : Int) from (w64 (by omega) (by omega)).trans (by omega))
  have t1 : (L.take i).length ≤ 1048576 := by rw [List.length_take]; omega
  have t2 : (L.drop (i + 1)).length ≤ 1048576 := by rw [List.length_drop]; omega
  simp only [spec_l19Unset.f, Option.bind_some, if_pos (show (0 : Int) ≤ (i : Int) by omega), if_pos (show (i : Int) ≤ (L.length : Int) by omega), hw.out, Int.toNat_natCast, List.nil_append, List.length_nil, if_pos (show 0 + (L.take i).length < 4398046511104 by omega), if_pos (show (0 : Int) ≤ ((i + 1 : Nat) : Int) by omega), if_pos (show ((i + 1 : Nat) : Int) ≤ (L.length : Int) by omega), if_pos (show (L.take i).length + (L.drop (i + 1)).length < 4398046511104 by omega)]
  congr 1
  have hsp : L = L.take i ++ L[i] :: L.drop (i + 1) := by rw [← List.drop_eq_getElem_cons hlt2, List.take_append_drop]
  have hne : ∀ j (hj : j < L.length), j ≠ i → L[j].f0 ≠ n := fun j hj hji e => by
    rcases Nat.lt_or_gt_of_ne hji with h1 | h1
    · have := List.pairwise_iff_getElem.mp hr j i hj hlt2 h1
      rw [show Hand.keyL L[j] = Hand.keyL L[i] by unfold Hand.keyL; rw [e, hg]] at this
      exact List.lt_irrefl _ this
    · have := List.pairwise_iff_getElem.mp hr i j hlt2 hj h1
      rw [show Hand.keyL L[j] = Hand.keyL L[i] by unfold Hand.keyL; rw [e, hg]] at this
      exact List.lt_irrefl _ this
  conv => rhs; rw [hsp]
  rw [Hand.delS_app, delS_here hg, Hand.delS_ne, Hand.delS_ne]
  · intro s hs
    obtain ⟨j, hj, rfl⟩ := List.mem_iff_getElem.mp hs
    rw [List.length_drop] at hj
    rw [List.getElem_drop]
    exact hne _ (by omega) (by omega)
  · intro s hs
    obtain ⟨j, hj, rfl⟩ := List.mem_iff_getElem.mp hs
    rw [List.length_take] at hj
    rw [List.getElem_take]
    exact hne _ (by omega) (by omega)
theorem ext_data (s : ByteArray) (a b : Nat) (h : b ≤ s.size) : (s.extract a b).data.toList = (s.data.toList.drop a).take (b - a) := by
  rw [ByteArray.data_extract]
  simp [List.extract_eq_take_drop]
theorem mk_of (l : List UInt8) (s : ByteArray) (h : s.data.toList = l) : s = ⟨l.toArray⟩ := Hand.bytes_ext (by rw [h])
theorem bt_eq (s : ByteArray) (i : Nat) (h : i < s.size) (c : Nat) (hc : c < 256) : (bt s (i : Int) = (c : Int)) ↔ s.data.toList[i]'(by rw [← Lib.size_eq]; exact h) = UInt8.ofNat c := by
  rw [bt_get s i h, Utf8W.get!_of_lt s i h]
  constructor
  · intro e
    have : (s[i]'h).toNat = c := by exact_mod_cast e
    exact UInt8.toNat_inj.mp (by rw [UInt8.toNat_ofNat', Nat.mod_eq_of_lt hc]; exact this)
  · intro e
    have : (s[i]'h) = UInt8.ofNat c := e
    rw [this, UInt8.toNat_ofNat', Nat.mod_eq_of_lt hc]
/-- A text is cut at the blanks. -/
theorem split_from (s : ByteArray) (hs : s.size ≤ 1048576) : ∀ (d i fr : Nat) (out : List ByteArray), s.size + 1 - i ≤ d → fr ≤ i → i ≤ s.size → out.length ≤ i → (32 : UInt8) ∉ (s.data.toList.drop fr).take (i - fr) →
    Ev (fun k => spec_l4Split.l0 k s 32 out (fr : Int) (i : Int)) (out ++ (Hand.splitL (s.data.toList.drop fr)).map fun l => ⟨l.toArray⟩) := by
  have hsz : s.data.toList.length = s.size := (Lib.size_eq s).symm
  intro d
  induction d with
  | zero => intro i fr out hd hf hi _ _; omega
  | succ d ih =>
    intro i fr out hd hf hi ho hno
    have hw := Aside0.mk (show wrap64 ((i : Int) + 1) = ((i + 1 : Nat) : Int) from (w64 (by omega) (by omega)).trans (by omega))
    have hex : s.extract fr i = ⟨((s.data.toList.drop fr).take (i - fr)).toArray⟩ := mk_of _ _ (ext_data s fr i hi)
    refine ev_unroll ?_
    by_cases he : i = s.size
    · subst he
      simp only [spec_l4Split.l0, if_pos (show ((s.size : Nat) : Int) ≤ (s.size : Int) by omega), if_true, if_pos (show (0 : Int) ≤ (fr : Int) by omega), if_pos (show (fr : Int) ≤ (s.size : Int) by omega), if_pos (show out.length < 8796093022208 by omega), hw.out, Int.toNat_natCast]
      refine ev_unroll ?_
      simp only [spec_l4Split.l0, if_neg (show ¬ ((s.size + 1 : Nat) : Int) ≤ (s.size : Int) by omega)]
      refine ev_eq (Ev.now _) ?_
      have hd2 : (s.data.toList.drop fr).take (s.size - fr) = s.data.toList.drop fr := List.take_of_length_le (by rw [List.length_drop]; omega)
      rw [hd2] at hno
      rw [hex, hd2, Hand.splitL_one _ hno]
      rfl
    · have hlt : i < s.size := by omega
      have hb := bt_eq s i hlt 32 (by decide)
      simp only [spec_l4Split.l0, if_pos (show (i : Int) ≤ (s.size : Int) by omega), if_neg (show ¬ (i : Int) = (s.size : Int) by omega), if_pos (show (0 : Int) ≤ (i : Int) by omega), if_pos (show (i : Int) < (s.size : Int) by omega)]
      have hl2 : i < s.data.toList.length := by omega
      by_cases hc : bt s (i : Int) = 32
      · simp only [if_pos hc, if_pos (show (0 : Int) ≤ (fr : Int) by omega), if_pos (show (fr : Int) ≤ (i : Int) by omega), if_pos (show out.length < 8796093022208 by omega), hw.out, Int.toNat_natCast]
        have hat : s.data.toList[i] = 32 := hb.mp hc
        have hsp : s.data.toList.drop fr = (s.data.toList.drop fr).take (i - fr) ++ 32 :: s.data.toList.drop (i + 1) := by
          conv => lhs; rw [← List.take_append_drop (i - fr) (s.data.toList.drop fr)]
          rw [List.drop_drop, show fr + (i - fr) = i by omega, List.drop_eq_getElem_cons hl2, hat]
        have q := ih (i + 1) (i + 1) (out ++ [s.extract fr i]) (by omega) (by omega) (by omega) (by rw [List.length_append, List.length_singleton]; omega) (by simp)
        refine ev_eq q ?_
        conv => rhs; rw [hsp]
        rw [Hand.splitL_app _ _ hno, hex]
        simp
      · simp only [if_neg hc, hw.out]
        have hat : s.data.toList[i] ≠ 32 := fun e => hc (hb.mpr e)
        refine ih (i + 1) fr out (by omega) (by omega) (by omega) (by omega) ?_
        rw [show i + 1 - fr = (i - fr) + 1 by omega, List.take_succ_eq_append_getElem (by rw [List.length_drop]; omega)]
        simp only [List.mem_append, List.mem_singleton, not_or]
        refine ⟨hno, fun e => hat ?_⟩
        rw [List.getElem_drop] at e
        rw [e]
        congr 1
        omega
theorem split_ev (s : ByteArray) (hs : s.size ≤ 1048576) : Ev (fun k => spec_l4Split.f k s 32) (Hand.pieces s) := by
  have := split_from s hs (s.size + 1) 0 0 [] (by omega) (by omega) (by omega) (by simp) (by simp)
  rw [Hand.pieces_eq]
  rw [List.drop_zero, List.nil_append] at this
  exact this
/-- A text's whole lines, and what stands behind the last line end. -/
def linesL : List UInt8 → List (List UInt8) × List UInt8
  | [] => ([], [])
  | b :: r => if b = 10 then ([] :: (linesL r).1, (linesL r).2) else match (linesL r).1 with
    | [] => ([], b :: (linesL r).2)
    | h :: t => ((b :: h) :: t, (linesL r).2)
theorem linesL_no : ∀ c : List UInt8, (10 : UInt8) ∉ c → linesL c = ([], c)
  | [], _ => rfl
  | b :: c, h => by
    unfold linesL
    rw [if_neg (fun e => h (by rw [e]; simp)), linesL_no c (fun hm => h (List.mem_cons_of_mem _ hm))]
theorem linesL_app : ∀ c r : List UInt8, (10 : UInt8) ∉ c → linesL (c ++ 10 :: r) = (c :: (linesL r).1, (linesL r).2)
  | [], r, _ => by
    show linesL (10 :: r) = _
    conv => lhs; unfold linesL
    rw [if_pos rfl]
  | b :: c, r, h => by
    show linesL (b :: (c ++ 10 :: r)) = _
    conv => lhs; unfold linesL
    rw [if_neg (fun e => h (by rw [e]; simp)), linesL_app c r (fun hm => h (List.mem_cons_of_mem _ hm))]
theorem linesL_len : ∀ l : List UInt8, (linesL l).1.length ≤ l.length ∧ ∀ c ∈ (linesL l).1, c.length ≤ l.length
  | [] => ⟨Nat.le_refl _, fun c hc => by cases hc⟩
  | b :: r => by
    obtain ⟨h1, h2⟩ := linesL_len r
    unfold linesL
    by_cases e : b = 10
    · rw [if_pos e]
      refine ⟨by simp; omega, fun c hc => ?_⟩
      rcases List.mem_cons.mp hc with rfl | hc
      · exact Nat.zero_le _
      · exact Nat.le_succ_of_le (h2 c hc)
    · rw [if_neg e]
      cases hm : (linesL r).1 with
      | nil => exact ⟨Nat.zero_le _, fun c hc => by cases hc⟩
      | cons a t =>
        rw [hm] at h1 h2
        refine ⟨by simp at h1 ⊢; omega, fun c hc => ?_⟩
        rcases List.mem_cons.mp hc with rfl | hc
        · have := h2 a (by simp); simp; omega
        · exact Nat.le_succ_of_le (h2 c (List.mem_cons_of_mem _ hc))
theorem lines_from (s : ByteArray) (hs : s.size ≤ 1048576) : ∀ (d i fr : Nat) (out : List ByteArray), s.size - i ≤ d → fr ≤ i → i ≤ s.size → out.length ≤ i → (10 : UInt8) ∉ (s.data.toList.drop fr).take (i - fr) →
    Ev (fun k => spec_l4Lines.l0 k s out (fr : Int) (i : Int)) (out ++ ((linesL (s.data.toList.drop fr)).1.map fun l => ⟨l.toArray⟩), ⟨(linesL (s.data.toList.drop fr)).2.toArray⟩) := by
  have hsz : s.data.toList.length = s.size := (Lib.size_eq s).symm
  have last : ∀ (i fr : Nat) (out : List ByteArray), i = s.size → fr ≤ i → (10 : UInt8) ∉ (s.data.toList.drop fr).take (i - fr) → Ev (fun k => spec_l4Lines.l0 k s out (fr : Int) (i : Int)) (out ++ ((linesL (s.data.toList.drop fr)).1.map fun l => ⟨l.toArray⟩), ⟨(linesL (s.data.toList.drop fr)).2.toArray⟩) := by
    intro i fr out hi hf hno
    subst hi
    refine ev_unroll ?_
    simp only [spec_l4Lines.l0, if_neg (show ¬ ((s.size : Nat) : Int) < (s.size : Int) by omega), if_pos (show (0 : Int) ≤ (fr : Int) by omega), if_pos (show (fr : Int) ≤ (s.size : Int) by omega), Int.toNat_natCast]
    refine ev_eq (Ev.now _) ?_
    have hd2 : (s.data.toList.drop fr).take (s.size - fr) = s.data.toList.drop fr := List.take_of_length_le (by rw [List.length_drop]; omega)
    rw [mk_of _ _ (ext_data s fr s.size (Nat.le_refl _)), hd2]
    rw [hd2] at hno
    rw [linesL_no _ hno]
    simp
  intro d
  induction d with
  | zero => exact fun i fr out hd hf hi _ hno => last i fr out (by omega) hf hno
  | succ d ih =>
    intro i fr out hd hf hi ho hno
    by_cases hlt : i < s.size
    · have hw := Aside0.mk (show wrap64 ((i : Int) + 1) = ((i + 1 : Nat) : Int) from (w64 (by omega) (by omega)).trans (by omega))
      have hex : s.extract fr i = ⟨((s.data.toList.drop fr).take (i - fr)).toArray⟩ := mk_of _ _ (ext_data s fr i hi)
      have hb := bt_eq s i hlt 10 (by decide)
      have hl2 : i < s.data.toList.length := by omega
      refine ev_unroll ?_
      simp only [spec_l4Lines.l0, if_pos (show (i : Int) < (s.size : Int) by omega), if_pos (show (0 : Int) ≤ (i : Int) by omega)]
      by_cases hc : bt s (i : Int) = 10
      · simp only [if_pos hc, if_pos (show (0 : Int) ≤ (fr : Int) by omega), if_pos (show (fr : Int) ≤ (i : Int) by omega), if_pos (show (i : Int) ≤ (s.size : Int) by omega), if_pos (show out.length < 8796093022208 by omega), hw.out, Int.toNat_natCast]
        have hat : s.data.toList[i] = 10 := hb.mp hc
        have hsp : s.data.toList.drop fr = (s.data.toList.drop fr).take (i - fr) ++ 10 :: s.data.toList.drop (i + 1) := by
          conv => lhs; rw [← List.take_append_drop (i - fr) (s.data.toList.drop fr)]
          rw [List.drop_drop, show fr + (i - fr) = i by omega, List.drop_eq_getElem_cons hl2, hat]
        have q := ih (i + 1) (i + 1) (out ++ [s.extract fr i]) (by omega) (by omega) (by omega) (by rw [List.length_append, List.length_singleton]; omega) (by simp)
        refine ev_eq q ?_
        conv => rhs; rw [hsp]
        rw [linesL_app _ _ hno, hex]
        simp
      · simp only [if_neg hc, hw.out]
        have hat : s.data.toList[i] ≠ 10 := fun e => hc (hb.mpr e)
        refine ih (i + 1) fr out (by omega) (by omega) (by omega) (by omega) ?_
        rw [show i + 1 - fr = (i - fr) + 1 by omega, List.take_succ_eq_append_getElem (by rw [List.length_drop]; omega)]
        simp only [List.mem_append, List.mem_singleton, not_or]
        refine ⟨hno, fun e => hat ?_⟩
        rw [List.getElem_drop] at e
        rw [e]
        congr 1
        omega
    · exact last i fr out (by omega) hf hno
theorem lines_ev (s : ByteArray) (hs : s.size ≤ 1048576) : Ev (fun k => spec_l4Lines.f k s) ((linesL s.data.toList).1.map (fun l => (⟨l.toArray⟩ : ByteArray)), (⟨(linesL s.data.toList).2.toArray⟩ : ByteArray)) := by
  have := lines_from s hs s.size 0 0 [] (by omega) (by omega) (by omega) (by simp) (by simp)
  rw [List.drop_zero, List.nil_append] at this
  exact this
theorem first_nl : ∀ l : List UInt8, (10 : UInt8) ∈ l → ∃ c r, l = c ++ 10 :: r ∧ (10 : UInt8) ∉ c
  | b :: l, h => by
    by_cases e : b = 10
    · exact ⟨[], l, by rw [e]; rfl, by simp⟩
    · obtain ⟨c, r, h1, h2⟩ := first_nl l ((List.mem_cons.mp h).resolve_left (fun h => e h.symm))
      exact ⟨b :: c, r, by rw [h1]; rfl, by simp only [List.mem_cons, not_or]; exact ⟨fun h => e h.symm, h2⟩⟩
/-- Line by line is the same as the lines one by one. -/
theorem conf_same : ∀ (f : Nat) (L : List S38) (K : List (List S38)) (l : List UInt8) (n : Nat), (linesL l).1.length < f → Hand.confI Hand.wordB Hand.valueB f L K ⟨l.toArray⟩ n = Hand.confL L K ((linesL l).1.map fun l => ⟨l.toArray⟩) ⟨(linesL l).2.toArray⟩ n
  | 0, _, _, _, _, h => by omega
  | f + 1, L, K, l, n, h => by
    by_cases hm : (10 : UInt8) ∈ l
    · obtain ⟨c, r, rfl, hc⟩ := first_nl l hm
      rw [linesL_app c r hc] at h ⊢
      rw [Hand.conf_line _ _ _ _ _ _ _ _ hc]
      simp only [List.map_cons]
      show _ = (match Hand.doI Hand.wordB Hand.valueB L K ⟨c.toArray⟩ with | some s => Hand.confL s.1 s.2 _ _ (n + 1) | none => (none, n))
      cases Hand.doI Hand.wordB Hand.valueB L K ⟨c.toArray⟩ with
      | none => rfl
      | some s => exact conf_same f s.1 s.2 r (n + 1) (by simp at h; omega)
    · rw [linesL_no l hm, Hand.conf_rest _ _ _ _ _ _ _ hm]
      rfl
/-! ### what is settled stays settled -/
theorem piece_le (s : ByteArray) (i : Nat) : ((Hand.pieces s).getD i ⟨#[]⟩).size ≤ s.size := Hand.piece_size s i
theorem doI_fit {L L' : List S38} {K K' : List (List S38)} {c : ByteArray} (hc : c.size ≤ 1048576) (h : Hand.doI Hand.wordB Hand.valueB L K c = some (L', K')) (hL : Hand.Fit L) (hK : ∀ M ∈ K, Hand.Fit M) : Hand.Fit L' ∧ ∀ M ∈ K', Hand.Fit M := by
  unfold Hand.doI at h
  split at h
  · split at h
    · rename_i h1
      injection h with h
      injection h with ha hb
      subst ha
      subst hb
      have z1 := piece_le c 1
      have z2 := piece_le c 2
      exact ⟨hL.set _ h1.2.2 ⟨by show ((Hand.pieces c).getD 1 ⟨#[]⟩).size ≤ _; omega, by show ((Hand.pieces c).getD 2 ⟨#[]⟩).size ≤ _; omega⟩ h1.1 h1.2.1, hK⟩
    · cases h
  split at h
  · split at h
    · injection h with h; injection h with ha hb; subst ha; subst hb; exact ⟨hL.del _, hK⟩
    · cases h
  split at h
  · split at h
    · injection h with h; injection h with ha hb; subst ha; subst hb
      exact ⟨hL, fun M hM => by rcases List.mem_append.mp hM with hM | hM; exact hK M hM; rw [List.mem_singleton.mp hM]; exact hL⟩
    · cases h
  split at h
  · split at h
    · rename_i h1
      injection h with h; injection h with ha hb; subst ha; subst hb
      refine ⟨?_, fun M hM => hK M (List.dropLast_subset _ hM)⟩
      split
      · have hne : K ≠ [] := fun e => by rw [e] at h1; simp at h1
        have hg : K.getLastD [] = K.getLast hne := by rw [List.getLastD_eq_getLast?, List.getLast?_eq_some_getLast hne]; rfl
        rw [hg]
        exact hK _ (List.getLast_mem hne)
      · exact hL
    · cases h
  split at h
  · split at h
    · injection h with h; injection h with ha hb; subst ha; subst hb; exact ⟨hL, hK⟩
    · cases h
  · cases h
theorem confI_fit : ∀ (f : Nat) (L : List S38) (K : List (List S38)) (t : ByteArray) (n : Nat) (L' : List S38) (m : Nat), t.size ≤ 1048576 → Hand.Fit L → (∀ M ∈ K, Hand.Fit M) → Hand.confI Hand.wordB Hand.valueB f L K t n = (some L', m) → Hand.Fit L' ∧ m = 0
  | 0, _, _, _, _, _, _, _, _, _, h => by simp [Hand.confI] at h
  | f + 1, L, K, t, n, L', m, ht, hL, hK, h => by
    have hz := Hand.cut_sizes t
    unfold Hand.confI at h
    by_cases his : (Lib.cut t.data.toList [10]).2.2 = true
    · rw [if_pos his] at h
      have hz2 := hz.2 his
      cases hd : Hand.doI Hand.wordB Hand.valueB L K ⟨(Lib.cut t.data.toList [10]).1.toArray⟩ with
      | none => rw [hd] at h; simp at h
      | some s =>
        rw [hd] at h
        obtain ⟨L2, K2⟩ := s
        have h1 : (⟨(Lib.cut t.data.toList [10]).1.toArray⟩ : ByteArray).size ≤ t.size := hz.1
        have h2 : (⟨(Lib.cut t.data.toList [10]).2.1.toArray⟩ : ByteArray).size < t.size := hz2
        obtain ⟨a, b⟩ := doI_fit (by omega) hd hL hK
        exact confI_fit f L2 K2 _ (n + 1) L' m (by omega) a b h
    · rw [if_neg his] at h
      split at h
      · simp at h
      · injection h with h1 h2
        injection h1 with h1
        subst h1
        exact ⟨hL, h2.symm⟩
theorem confO_cases (l : List S38) (t : ByteArray) (ht : t.size ≤ 1048576) (hf : Hand.Fit l) : Hand.Fit (Hand.confO l t).1 := by
  unfold Hand.confO
  cases h : Hand.confI Hand.wordB Hand.valueB (t.size + 1) l [] t 1 with
  | mk o n =>
    cases o with
    | none => exact hf
    | some L => exact (confI_fit _ l [] t 1 L n ht hf (fun M hM => by cases hM) h).1
theorem fit_of {l : List S38} (hl : Small l) (h : Okay l) : Hand.Fit l := ⟨⟨asc_of_rise h.rise, h.len, hl.2⟩, h.wv⟩
/-! ### the marks -/
theorem strOfNums_one (z : Int) : (strOfNums [z]).size = 1 := by rfl
theorem markText_from : ∀ (d : Nat) (x : Int) (acc : ByteArray), x ≤ d → 0 ≤ x → acc.size + x.toNat ≤ 1073741824 → ∃ r, Ev (fun k => laws_markText.l0 k x acc) r := by
  intro d
  induction d with
  | zero =>
    intro x acc hx h0 hs
    refine ⟨⟨#[109]⟩ ++ acc, ev_unroll ?_⟩
    simp only [laws_markText.l0, if_neg (show ¬ x > 0 by omega), if_pos (show 1 + acc.size ≤ 9223372036854775807 by omega)]
    exact Ev.now _
  | succ d ih =>
    intro x acc hx h0 hs
    by_cases hp : x > 0
    · have hq : Int.tdiv x 10 = x / 10 := Int.tdiv_eq_ediv_of_nonneg h0
      have hw := Aside0.mk (show wrap64 (Int.tdiv x 10) = x / 10 by rw [hq]; exact w64 (by omega) (by omega))
      obtain ⟨z, hz⟩ : ∃ z, (wrap64 (48 + (Int.tmod x 10))) % 256 = z := ⟨_, rfl⟩
      have hsz : (strOfNums [z]).size = 1 := strOfNums_one z
      obtain ⟨r, hr⟩ := ih (x / 10) (strOfNums [z] ++ acc) (by omega) (by omega) (by rw [ByteArray.size_append, hsz]; omega)
      refine ⟨r, ev_unroll ?_⟩
      simp only [laws_markText.l0, if_pos hp, Option.bind_some, hz, hw.out, hsz, if_pos (show 1 + acc.size ≤ 9223372036854775807 by omega)]
      exact hr
    · refine ⟨⟨#[109]⟩ ++ acc, ev_unroll ?_⟩
      simp only [laws_markText.l0, if_neg hp, if_pos (show 1 + acc.size ≤ 9223372036854775807 by omega)]
      exact Ev.now _
theorem markText_ex (x : Int) (h1 : x ≤ 1073741824) : ∃ r, Ev (fun k => laws_markText.f k x) r := by
  by_cases h : x ≤ 0
  · refine ⟨⟨#[109, 48]⟩, ?_⟩
    simp only [laws_markText.f, if_pos h]
    exact Ev.now _
  · obtain ⟨r, hr⟩ := markText_from x.toNat x ⟨#[]⟩ (by omega) (by omega) (by show 0 + x.toNat ≤ _; omega)
    refine ⟨r, ?_⟩
    simp only [laws_markText.f, if_neg h]
    exact hr
open Classical in
noncomputable def mt (x : Int) : ByteArray := if h : ∃ r, Ev (fun k => laws_markText.f k x) r then Classical.choose h else ⟨#[]⟩
theorem mt_ev (x : Int) (h1 : x ≤ 1073741824) : Ev (fun k => laws_markText.f k x) (mt x) := by
  unfold mt
  rw [dif_pos (markText_ex x h1)]
  exact Classical.choose_spec (markText_ex x h1)
noncomputable def marked (n : Nat) : List S38 := (List.range n).map fun (i : Nat) => ⟨mt (1 + 2 * (i : Int)), mt (2 + 2 * (i : Int))⟩
theorem marked_len (n : Nat) : (marked n).length = n := by simp [marked]
theorem marked_succ (n : Nat) : marked (n + 1) = marked n ++ [⟨mt (1 + 2 * (n : Int)), mt (2 + 2 * (n : Int))⟩] := by simp [marked, List.range_succ]
theorem marked_get (n i : Nat) (h : i < n) : rd_T38 (marked n) (i : Int) = ⟨mt (1 + 2 * (i : Int)), mt (2 + 2 * (i : Int))⟩ := by
  have : i < (marked n).length := by rw [marked_len]; exact h
  rw [rd38_get _ i this]
  simp [marked]
theorem mid_get (a : List S38) (x : S38) (t : List S38) (i : Nat) (h : a.length = i) : rd_T38 (a ++ x :: t) (i : Int) = x := by
  rw [rd38_get _ i (by rw [List.length_append, List.length_cons]; omega)]
  subst h
  simp
theorem mid_set (a : List S38) (x y : S38) (t : List S38) (i : Nat) (h : a.length = i) : (a ++ x :: t).set i y = a ++ y :: t := by
  subst h
  simp
theorem mark_from (l : List S38) (hl : l.length ≤ 1048576) : ∀ (d i : Nat), l.length - i ≤ d → i ≤ l.length → Ev (fun k => laws_markSettingS.l0 k (marked i ++ l.drop i) (1 + 2 * (i : Int)) (i : Int)) (1 + 2 * (l.length : Int), marked l.length) := by
  have last : ∀ i : Nat, i = l.length → Ev (fun k => laws_markSettingS.l0 k (marked i ++ l.drop i) (1 + 2 * (i : Int)) (i : Int)) (1 + 2 * (l.length : Int), marked l.length) := by
    intro i hi
    subst hi
    rw [List.drop_length, List.append_nil]
    refine ev_unroll ?_
    simp only [laws_markSettingS.l0, marked_len, if_neg (show ¬ (l.length : Int) < (l.length : Int) by omega)]
    exact Ev.now _
  intro d
  induction d with
  | zero => exact fun i hd hi => last i (by omega)
  | succ d ih =>
    intro i hd hi
    by_cases hlt : i < l.length
    · have hw := Aside0.mk (show wrap64 ((i : Int) + 1) = ((i + 1 : Nat) : Int) from (w64 (by omega) (by omega)).trans (by omega))
      have hw1 := Aside0.mk (show wrap64 (1 + 2 * (i : Int) + 1) = 2 + 2 * (i : Int) from (w64 (by omega) (by omega)).trans (by omega))
      have hw2 := Aside0.mk (show wrap64 (2 + 2 * (i : Int) + 1) = 1 + 2 * ((i + 1 : Nat) : Int) from (w64 (by omega) (by omega)).trans (by omega))
      have ed : l.drop i = l[i] :: l.drop (i + 1) := List.drop_eq_getElem_cons hlt
      have hlen : (marked i ++ l.drop i).length = l.length := by rw [List.length_append, marked_len, List.length_drop]; omega
      have q := ih (i + 1) (by omega) (by omega)
      refine ev_unroll ?_
      simp only [laws_markSettingS.l0, hlen, if_pos (show (i : Int) < (l.length : Int) by omega)]
      refine Ev.bind (mt_ev (1 + 2 * (i : Int)) (by omega)) ?_
      rw [ed]
      simp only [if_pos (show (0 : Int) ≤ (i : Int) by omega), Int.toNat_natCast, Option.bind_some, mid_get _ _ _ i (marked_len i), mid_set _ _ _ _ i (marked_len i), hw1.out]
      refine Ev.bind (mt_ev (2 + 2 * (i : Int)) (by omega)) ?_
      simp only [hw.out, hw2.out]
      rw [marked_succ, List.append_assoc] at q
      exact q
    · exact last i (by omega)
theorem mark_ev (l : List S38) (hl : l.length ≤ 1048576) : Ev (fun k => laws_markSettingS.f k l 1) (1 + 2 * (l.length : Int), marked l.length) := by
  have := mark_from l hl l.length 0 (by omega) (by omega)
  rw [List.drop_zero] at this
  exact this
theorem held_from (n : Nat) (hl : n ≤ 1048576) : ∀ (d i : Nat), n - i ≤ d → i ≤ n → Ev (fun k => laws_heldSettingS.l0 k (marked n) (1 + 2 * (i : Int)) (i : Int)) (1 + 2 * (n : Int)) := by
  have last : ∀ i : Nat, i = n → Ev (fun k => laws_heldSettingS.l0 k (marked n) (1 + 2 * (i : Int)) (i : Int)) (1 + 2 * (n : Int)) := by
    intro i hi
    subst hi
    refine ev_unroll ?_
    simp only [laws_heldSettingS.l0, marked_len, if_neg (show ¬ (i : Int) < (i : Int) by omega)]
    exact Ev.now _
  intro d
  induction d with
  | zero => exact fun i hd hi => last i (by omega)
  | succ d ih =>
    intro i hd hi
    by_cases hlt : i < n
    · have hw := Aside0.mk (show wrap64 ((i : Int) + 1) = ((i + 1 : Nat) : Int) from (w64 (by omega) (by omega)).trans (by omega))
      have hw1 := Aside0.mk (show wrap64 (1 + 2 * (i : Int) + 1) = 2 + 2 * (i : Int) from (w64 (by omega) (by omega)).trans (by omega))
      have hw2 := Aside0.mk (show wrap64 (2 + 2 * (i : Int) + 1) = 1 + 2 * ((i + 1 : Nat) : Int) from (w64 (by omega) (by omega)).trans (by omega))
      refine ev_unroll ?_
      simp only [laws_heldSettingS.l0, marked_len, if_pos (show (i : Int) < (n : Int) by omega), if_pos (show (0 : Int) ≤ (i : Int) by omega), marked_get n i hlt]
      refine Ev.bind (mt_ev (1 + 2 * (i : Int)) (by omega)) ?_
      simp only [if_true, hw1.out]
      refine Ev.bind (mt_ev (2 + 2 * (i : Int)) (by omega)) ?_
      simp only [if_true, hw.out, hw2.out]
      exact ih (i + 1) (by omega) (by omega)
    · exact last i (by omega)
theorem held_ev (n : Nat) (hl : n ≤ 1048576) : Ev (fun k => laws_heldSettingS.f k (marked n) 1) (1 + 2 * (n : Int)) := held_from n hl n 0 (by omega) (by omega)
theorem plain_all : Hand.Plain := by
  have g : ∀ {L : List S38}, Hand.Good L → Hand.Rise L := fun h => rise_of_asc h.asc
  refine ⟨fun s hs => Ev.rounds (word_ev s (by omega)), fun s hs => Ev.rounds (value_ev s (by omega)), fun s hs => Ev.rounds (split_ev s (by omega)), fun L n h => Ev.rounds (at_ev L n (by have := h.len; omega)), fun L x h => Ev.rounds (set_ev L (by have := h.len; omega) (g h) x), fun L n h h0 => unset_eq L n (g h) (by have := h.len; omega) h0⟩
theorem conf_ok (l : List S38) (t : ByteArray) (hl : Small l) (ht : t.size ≤ 2097152) : Hand.ConfOk l t := by
  refine ⟨hl, ht, fun ⟨k, hk⟩ => ?_⟩
  obtain ⟨b, p, q⟩ := settings_both l hl
  have e : b = true := ev_unique q (Ev.of (fun k => impl_SettingsOk.mono _ k) hk)
  subst e
  have h := okay_of l hl p
  exact ⟨asc_of_rise h.rise, h.len⟩
theorem spec_ok (l : List S38) (t : ByteArray) (hl : Small l) (ht : t.size ≤ 2097152) : Hand.SpecOk l t := by
  refine ⟨hl, ht, fun ⟨k, hk⟩ hs => ?_⟩
  have h := okay_of l hl (Ev.of (fun k => spec_SettingsOk.mono _ k) hk)
  refine ⟨fit_of hl h, plain_all, _, _, Ev.rounds (lines_ev t (by omega)), fun c hc => ?_, ?_, ?_⟩
  · obtain ⟨b, hb, rfl⟩ := List.mem_map.mp hc
    have := (linesL_len t.data.toList).2 b hb
    rw [Lib.size_eq] at hs ⊢
    have e : (⟨b.toArray⟩ : ByteArray).data.toList.length = b.length := by simp
    rw [e]
    omega
  · rw [List.length_map]
    have := (linesL_len t.data.toList).1
    rw [Lib.size_eq] at hs
    omega
  · have := conf_same (t.size + 1) l [] t.data.toList 1 (by have := (linesL_len t.data.toList).1; rw [Lib.size_eq]; omega)
    rw [mkB t] at this
    exact this
/-- Both sides of Configure. -/
theorem configure_both (l : List S38) (t : ByteArray) (hl : Small l) (ht : t.size ≤ 1048576) : ∃ r z, impl_Configure.f l t = some (r, z) ∧ spec_Configure.f l t = some (r, z) ∧ r.length ≤ 1048576 := by
  obtain ⟨b, p, q⟩ := settings_both l hl
  have ci := conf_ok l t hl (by omega)
  have cs := spec_ok l t hl (by omega)
  cases b
  · have n1 : ¬ ∃ k, impl_SettingsOk.f k l = some true := fun ⟨k, hk⟩ => by have := ev_unique q (Ev.of (fun k => impl_SettingsOk.mono _ k) hk); cases this
    have n2 : ¬ ∃ k, spec_SettingsOk.f k l = some true := fun ⟨k, hk⟩ => by have := ev_unique p (Ev.of (fun k => spec_SettingsOk.mono _ k) hk); cases this
    refine ⟨l, -1, ?_, ?_, hl.1⟩
    · unfold impl_Configure.f
      rw [if_pos ci, if_neg n1, if_pos (Ev.rounds q)]
    · unfold spec_Configure.f
      rw [if_pos cs, if_neg n2, if_pos (Ev.rounds p)]
  · by_cases hs : t.size ≤ 3000
    · refine ⟨(Hand.confO l t).1, ((Hand.confO l t).2 : Int), ?_, ?_, ?_⟩
      · unfold impl_Configure.f
        rw [if_pos ci, if_pos (Ev.rounds q), if_pos hs]
      · unfold spec_Configure.f
        rw [if_pos cs, if_pos (Ev.rounds p), if_pos hs]
      · have := (confO_cases l t (by omega) (fit_of hl (okay_of l hl p))).good.len
        omega
    · refine ⟨l, -1, ?_, ?_, hl.1⟩
      · unfold impl_Configure.f
        rw [if_pos ci, if_pos (Ev.rounds q), if_neg hs]
      · unfold spec_Configure.f
        rw [if_pos cs, if_pos (Ev.rounds p), if_neg hs]
def laws_FnExactConfigure.Pure : Prop := ∀ (l0 : List S42) (a1 : ByteArray), l0.length ≤ maxLen → (∀ x ∈ l0, x.f0.size ≤ maxLen ∧ x.f1.size ≤ maxLen) → a1.size ≤ 140737488351232 → ∃ k, laws_FnExactConfigure.f k l0 a1 = some true
theorem FnExactConfigure : laws_FnExactConfigure.Pure := by
  intro l0 a1 hm hs _
  refine Ev.rounds (g := fun k => laws_FnExactConfigure.f k l0 a1) ?_
  unfold laws_FnExactConfigure.f
  by_cases hbig : (a1.size : Int) > 1048576
  · simp only [if_pos hbig]
    exact Ev.now _
  simp only [if_neg hbig]
  obtain ⟨v, hv, hv2⟩ := sz_ev l0 hm hs
  refine Ev.bind hv ?_
  by_cases hb : v < 0
  · simp only [if_pos hb]
    exact Ev.now _
  simp only [if_neg hb]
  have hsm := hv2 hb
  have hn : l0.length ≤ 1048576 := by have := hsm.1; rw [List.length_map] at this; exact this
  have ht := toSettingS_ev l0 hn
  obtain ⟨r, z, hi, hsp, hr⟩ := configure_both (l0.map cv) a1 hsm (by omega)
  have e1 := eqSettingS_ev _ hsm.1
  have e2 := eqSettingS_ev r hr
  have m1 := mark_ev (l0.map cv) hsm.1
  have m2 := mark_ev r hr
  have h2 := held_ev r.length hr
  refine Ev.bind ht ?_
  simp only [hsp, Option.bind_some]
  refine Ev.bind ht ?_
  simp only [hi, Option.bind_some]
  refine Ev.bind e2 ?_
  simp only [if_true, bne_self_eq_false]
  refine ev_unroll ?_
  simp only [laws_FnExactConfigure.j0, Bool.false_eq_true, if_false]
  refine Ev.bind ht (Ev.bind e1 ?_)
  simp only [if_true]
  refine Ev.bind m1 ?_
  simp only [if_neg (show ¬ 1 + 2 * ((l0.map cv).length : Int) < 0 by omega)]
  refine Ev.bind e2 ?_
  simp only [if_true, bne_self_eq_false]
  refine ev_unroll ?_
  simp only [laws_FnExactConfigure.j1, Bool.false_eq_true, if_false]
  refine Ev.bind m2 (Ev.bind h2 ?_)
  simp only [if_neg (show ¬ 1 + 2 * (r.length : Int) < 0 by omega), if_true]
  refine Ev.bind ht ?_
  simp only [hi, Option.bind_some]
  refine Ev.bind e2 ?_
  simp only [if_true, bne_self_eq_false]
  refine ev_unroll ?_
  simp only [laws_FnExactConfigure.j2, Bool.false_eq_true, if_false]
  refine Ev.bind h2 ?_
  simp only [if_neg (show ¬ 1 + 2 * (r.length : Int) < 0 by omega), if_true]
  exact Ev.now _

end Go.Proofs.YtfepbnolgceadaaDoor.Pure
