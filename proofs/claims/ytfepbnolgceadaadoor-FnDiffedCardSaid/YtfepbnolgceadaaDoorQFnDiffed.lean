/- The law FnDiffed: for every code, the commands between the two drawn lists lead from the one to the other. -/
import Derived.Test.YtfepbnolgceadaaDoorMFnDiffedx20
import Derived.Test.YtfepbnolgceadaaDoorHandConfRFnDiffed
import Derived.Test.YtfepbnolgceadaaDoorKitFnDiffed
namespace Go.Proofs.YtfepbnolgceadaaDoor.Pure
set_option linter.unusedSimpArgs false
set_option linter.unusedVariables false
set_option linter.unusedSectionVars false
open Go Go.RowKit Go.Proofs.YtfepbnolgceadaaDoor.MFnDiffed Go.Proofs.YtfepbnolgceadaaDoorW.PrintWords Go.Proofs.YtfepbnolgceadaaDoorW.PrintLast Go.Proofs.YtfepbnolgceadaaDoor.Mine

theorem l1New_ev (x0 : List Int) : ∃ h, Ev (fun k => spec_l1New.f k x0) (x0, 0, h) := by
  have key : ∀ (d : Nat) (i h : Int), 4000 - i ≤ d → 0 ≤ i → ∃ h', Ev (fun k => spec_l1New.l0 k x0 h i) (x0, 0, h') := by
    intro d
    induction d with
    | zero =>
      intro i h hd h0
      refine ⟨h, ev_unroll ?_⟩
      by_cases hlt : i < (x0.length : Int)
      · simp (disch := omega) only [spec_l1New.l0, ↓if_pos, ↓if_neg, if_pos, if_neg, ↓reduceIte, w64, Option.bind_some, Bool.not_true, Bool.not_false, Bool.false_eq_true, tmod_nonneg, tdiv_nonneg]
        exact Ev.now _
      · simp (disch := omega) only [spec_l1New.l0, ↓if_pos, ↓if_neg, if_pos, if_neg, ↓reduceIte, w64, Option.bind_some, Bool.not_true, Bool.not_false, Bool.false_eq_true, tmod_nonneg, tdiv_nonneg]
        exact Ev.now _
    | succ d ih =>
      intro i h hd h0
      by_cases hlt : i < (x0.length : Int)
      · by_cases h4 : i < 4000
        · obtain ⟨h', p⟩ := ih (i + 1) (Go.bits .and .i64 (wrap64 ((wrap64 ((wrap64 (h * 131)) + (wrap64 (rd x0 i)))) + 7)) 1073741823) (by omega) (by omega)
          refine ⟨h', ev_unroll ?_⟩
          simp only [spec_l1New.l0, if_pos hlt, if_pos h4, if_pos h0]
          rw [w64 (x := i + 1) (by omega) (by omega)]
          exact p
        · refine ⟨h, ev_unroll ?_⟩
          simp (disch := omega) only [spec_l1New.l0, ↓if_pos, ↓if_neg, if_pos, if_neg, ↓reduceIte, w64, Option.bind_some, Bool.not_true, Bool.not_false, Bool.false_eq_true, tmod_nonneg, tdiv_nonneg]
          exact Ev.now _
      · refine ⟨h, ev_unroll ?_⟩
        simp (disch := omega) only [spec_l1New.l0, ↓if_pos, ↓if_neg, if_pos, if_neg, ↓reduceIte, w64, Option.bind_some, Bool.not_true, Bool.not_false, Bool.false_eq_true, tmod_nonneg, tdiv_nonneg]
        exact Ev.now _
  obtain ⟨h', p⟩ := key 4000 0 (wrap64 (71933 + (x0.length : Int))) (by omega) (by omega)
  exact ⟨h', p⟩
theorem l1Byte_some (b : List Int) (i h : Int) (hb : b.length ≤ 1048576) (h0 : 0 ≤ i) (h1 : i ≤ 1048576) :
    ∃ v i' h', spec_l1Byte.f b i h = some (v, i', h') ∧ 0 ≤ v ∧ v ≤ 255 ∧ 0 ≤ i' ∧ i' ≤ 1048576 := by
  unfold spec_l1Byte.f
  by_cases hlt : i < (b.length : Int)
  · rw [if_pos hlt, if_pos h0, w64 (x := i + 1) (by omega) (by omega)]
    refine ⟨_, _, _, rfl, ?_, ?_, by omega, by omega⟩
    · rw [and255]; omega
    · rw [and255]; omega
  · rw [if_neg hlt]
    refine ⟨_, _, _, rfl, ?_, ?_, h0, h1⟩
    · rw [and255]; omega
    · rw [and255]; omega
theorem l1Below_some (b : List Int) (i h n : Int) (hb : b.length ≤ 1048576) (h0 : 0 ≤ i) (h1 : i ≤ 1048576) :
    ∃ v i' h', spec_l1Below.f b i h n = some (v, i', h') ∧ 0 ≤ v ∧ (0 < n → v < n) ∧ (n ≤ 0 → v = 0) ∧ 0 ≤ i' ∧ i' ≤ 1048576 := by
  unfold spec_l1Below.f
  by_cases hn : n ≤ 0
  · rw [if_pos hn]
    exact ⟨0, i, h, rfl, by omega, by omega, fun _ => rfl, h0, h1⟩
  rw [if_neg hn]
  by_cases hm : n ≤ 256
  · rw [if_pos hm]
    obtain ⟨v, i1, s1, e1, p1, p2, p3, p4⟩ := l1Byte_some b i h hb h0 h1
    rw [e1]
    simp only [Option.bind_some]
    rw [if_neg (by omega), tmod_nonneg p1]
    exact ⟨_, _, _, rfl, Int.emod_nonneg _ (by omega), fun _ => Int.emod_lt_of_pos _ (by omega), fun h => absurd h hn, p3, p4⟩
  · rw [if_neg hm]
    obtain ⟨v1, i1, s1, e1, p1, p2, p3, p4⟩ := l1Byte_some b i h hb h0 h1
    obtain ⟨v2, i2, s2, e2, q1, q2, q3, q4⟩ := l1Byte_some b i1 s1 hb p3 p4
    obtain ⟨v3, i3, s3, e3, r1, r2, r3, r4⟩ := l1Byte_some b i2 s2 hb q3 q4
    obtain ⟨v4, i4, s4, e4, t1, t2, t3, t4⟩ := l1Byte_some b i3 s3 hb r3 r4
    rw [e1]
    simp only [Option.bind_some]
    rw [e2]
    simp only [Option.bind_some]
    rw [e3]
    simp only [Option.bind_some]
    rw [e4]
    simp only [Option.bind_some]
    rw [if_neg (by omega)]
    refine ⟨_, _, _, rfl, ?_, ?_, fun h => absurd h hn, t3, t4⟩
    · simp (disch := omega) only [w64]
      rw [tmod_nonneg (by omega)]
      exact Int.emod_nonneg _ (by omega)
    · intro _
      simp (disch := omega) only [w64]
      rw [tmod_nonneg (by omega)]
      exact Int.emod_lt_of_pos _ (by omega)
theorem bt_get (s : ByteArray) (i : Nat) (h : i < s.size) : bt s (i : Int) = ((s.get! i).toNat : Int) := by
  unfold bt
  rw [dif_pos (by simpa using h), Utf8W.get!_of_lt s i h]
  simp
theorem l1In_eq (x a b : Int) : spec_l1In.f x a b = some (decide (a ≤ x ∧ x ≤ b)) := by
  unfold spec_l1In.f
  by_cases h : a ≤ x
  · simp [h]
  · simp [h]
theorem spec_letter_eq (x : Int) : spec_l19Letter.f x = some (Hand.letterB x) := by
  unfold spec_l19Letter.f Hand.letterB
  simp only [l1In_eq, Option.bind_some, ge_iff_le]
  by_cases a1 : 65 ≤ x ∧ x ≤ 90
  · simp [a1.1, a1.2]
  by_cases a2 : 97 ≤ x ∧ x ≤ 122
  · simp [show 65 ≤ x by omega, show ¬ x ≤ 90 by omega, a2.1, a2.2]
  have hlow : ∀ (p q : Option Bool), (if 65 ≤ x then (if x ≤ 90 then some true else (if 97 ≤ x then (if x ≤ 122 then some true else p) else p)) else (if 97 ≤ x then (if x ≤ 122 then some true else p) else p)) = p := by
    intro p q
    split
    · rw [if_neg (by omega)]
      split
      · rw [if_neg (by omega)]
      · rfl
    · split
      · rw [if_neg (by omega)]
      · rfl
  refine (hlow _ none).trans ?_
  by_cases a3 : 192 ≤ x ∧ x ≤ 591
  · by_cases a4 : x = 215
    · subst a4; simp
    · by_cases a5 : x = 247
      · subst a5; simp
      · simp [a1, a2, a3, a4, a5]
  by_cases a6 : 913 ≤ x ∧ x ≤ 969
  · have a7 : ¬ (1040 ≤ x ∧ x ≤ 1103) := by omega
    have a8 : ¬ (192 ≤ x ∧ x ≤ 591 ∧ x ≠ 215 ∧ x ≠ 247) := fun h => a3 ⟨h.1, h.2.1⟩
    by_cases a9 : x = 930
    · subst a9; simp
    · simp [a1, a2, a3, a6, a7, a8, a9]
  · have a8 : ¬ (192 ≤ x ∧ x ≤ 591 ∧ x ≠ 215 ∧ x ≠ 247) := fun h => a3 ⟨h.1, h.2.1⟩
    have a9 : ¬ (913 ≤ x ∧ x ≤ 969 ∧ x ≠ 930) := fun h => a6 ⟨h.1, h.2.1⟩
    simp only [decide_eq_false a1, decide_eq_false a2, decide_eq_false a3, decide_eq_false a6, decide_eq_false a8, decide_eq_false a9, Bool.false_eq_true, if_false, Bool.false_or]
/-- A rune as the reference reads it, and as the program does. -/
theorem rune_step (s : ByteArray) (pos : Nat) (h : pos < s.size) (hs : s.size ≤ 140737488351232) :
    (∃ R K : Nat, Utf8.decode s pos = (R, K) ∧ spec_l19Rune.f s (pos : Int) = some ((R : Int), (K : Int)) ∧ 1 ≤ K ∧ K ≤ 2 ∧ pos + K ≤ s.size ∧ R < 2048)
    ∨ (spec_l19Rune.f s (pos : Int) = some (0, 0) ∧ 2048 ≤ (Utf8.decode s pos).1) := by
  have hb := Aside0.mk (bt_get s pos h)
  have hw := Aside0.mk (show wrap64 ((pos : Int) + 1) = ((pos + 1 : Nat) : Int) from (w64 (by omega) (by omega)).trans (by omega))
  have k0 := (s.get! pos).toNat_lt
  have k1 := (s.get! (pos + 1)).toNat_lt
  have hb2 := Aside0.mk (bt_get s (pos + 1))
  have hd := Aside0.mk (Lib.decode_at s pos)
  generalize (s.get! pos).toNat = b0 at hb hd k0
  generalize (s.get! (pos + 1)).toNat = b1 at hb2 hd k1
  generalize (s.get! (pos + 2)).toNat = b2 at hd
  generalize (s.get! (pos + 3)).toNat = b3 at hd
  obtain ⟨n, hn⟩ : ∃ n, s.size = n := ⟨_, rfl⟩
  have hn2 := Aside0.mk hn
  unfold spec_l19Rune.f
  rw [hn]
  rw [hn] at h hs
  clear hn
  rw [if_pos (by omega), if_pos (by omega), hb.out, hw.out]
  have hwb := Aside0.mk (show wrap64 (b0 : Int) = (b0 : Int) from w64 (by omega) (by omega))
  rw [hwb.out]
  by_cases c0 : b0 < 128
  · left
    refine ⟨b0, 1, ?_, ?_, by omega, by omega, by omega, by omega⟩
    · rw [hd.out, Lib.decodeN_ascii _ _ _ _ _ c0]
    · rw [if_pos (by omega)]; rfl
  rw [if_neg (by omega)]
  by_cases c1 : 194 ≤ b0 ∧ b0 ≤ 223 ∧ pos + 1 < n ∧ 128 ≤ b1 ∧ b1 ≤ 191
  · obtain ⟨d0, d1, d2, d3, d4⟩ := c1
    have hb3 := Aside0.mk (hb2.out (by rw [hn2.out]; exact d2))
    have hwb1 := Aside0.mk (show wrap64 (b1 : Int) = (b1 : Int) from w64 (by omega) (by omega))
    left
    refine ⟨(b0 - 192) * 64 + (b1 - 128), 2, ?_, ?_, by omega, by omega, by omega, by omega⟩
    · rw [hd.out, hn2.out]
      unfold Lib.decodeN
      rw [if_neg c0, if_pos ⟨by omega, by omega, by omega⟩, if_pos (by omega), show b0 % 32 * 64 + b1 % 64 = (b0 - 192) * 64 + (b1 - 128) by omega]
    · rw [if_neg (by omega), if_neg (by omega), if_neg (by omega), if_pos (by omega), if_pos (by omega), hb3.out, if_neg (by omega), if_neg (by omega), hwb1.out]
      rw [w64 (x := (b0 : Int) - 192) (by omega) (by omega), w64 (x := ((b0 : Int) - 192) * 64) (by omega) (by omega), w64 (x := ((b0 : Int) - 192) * 64 + (b1 : Int)) (by omega) (by omega), w64 (x := ((b0 : Int) - 192) * 64 + (b1 : Int) - 128) (by omega) (by omega)]
      rw [show ((((b0 - 192) * 64 + (b1 - 128) : Nat) : Nat) : Int) = ((b0 : Int) - 192) * 64 + (b1 : Int) - 128 by omega]
      rfl
  · right
    constructor
    · by_cases e0 : b0 < 194
      · rw [if_pos (by omega)]
      rw [if_neg (by omega)]
      by_cases e1 : 223 < b0
      · rw [if_pos (by omega)]
      rw [if_neg (by omega)]
      by_cases e2 : n ≤ pos + 1
      · rw [if_pos (by omega)]
      have hb3 := Aside0.mk (hb2.out (by rw [hn2.out]; omega))
      rw [if_neg (by omega), if_pos (by omega), if_pos (by omega), hb3.out]
      by_cases e3 : b1 < 128
      · rw [if_pos (by omega)]
      rw [if_neg (by omega), if_pos (by omega)]
    · rw [hd.out, hn2.out]
      have hsh := Lib.decodeN_shape (n - pos) b0 b1 b2 b3
      clear hd hb hw hb2 hn2 hwb
      rcases hsh with ⟨x, _⟩ | ⟨x1, x2, x3, x4, _⟩ | ⟨_, _, _, _, x, _, e⟩ | ⟨_, _, _, _, _, x, _, e⟩ | e
      · omega
      · exfalso; apply c1; omega
      · rw [e]; exact x
      · rw [e]; exact Nat.le_trans (by omega) x
      · rw [e]; simp
theorem high_rune (R : Nat) (h : 2048 ≤ R) (f : Bool) : Hand.runeB (R : Int) f = false := by
  unfold Hand.runeB Hand.letterB
  rw [Hand.sign_high _ (by omega), decide_eq_false (by omega), decide_eq_false (by omega), decide_eq_false (by omega), decide_eq_false (by omega), decide_eq_false (by omega)]
  simp
theorem word_from (s : ByteArray) (hs : s.size ≤ 140737488351232) : ∀ (d pos many : Nat), s.size - pos ≤ d → pos ≤ s.size → many ≤ pos → (many = 0 ↔ pos = 0) →
    Ev (fun k => spec_WordOk.l0 k s (many : Int) (pos : Int)) (Lib.validD (s.data.toList.drop pos) && decide (1 ≤ many + Lib.runeCountFrom s d pos ∧ many + Lib.runeCountFrom s d pos ≤ 16) && Hand.runesFrom s d pos) := by
  have last : ∀ (d pos many : Nat), pos = s.size → Ev (fun k => spec_WordOk.l0 k s (many : Int) (pos : Int)) (Lib.validD (s.data.toList.drop pos) && decide (1 ≤ many + Lib.runeCountFrom s d pos ∧ many + Lib.runeCountFrom s d pos ≤ 16) && Hand.runesFrom s d pos) := by
    intro d pos many hp
    refine ev_unroll ?_
    simp only [spec_WordOk.l0, if_neg (show ¬ (pos : Int) < (s.size : Int) by omega), l1In_eq, Option.bind_some]
    rw [Lib.runeCountFrom_end s d pos (by omega), Hand.runesFrom_end s d pos (by omega), List.drop_eq_nil_of_le (by rw [hp]; exact Nat.le_of_eq (Lib.size_eq s).symm)]
    refine ev_eq (Ev.now _) ?_
    have e : Lib.validD [] = true := rfl
    rw [e, Bool.true_and, Bool.and_true, Nat.add_zero, decide_eq_decide]
    omega
  intro d
  induction d with
  | zero => exact fun pos many hd hp _ _ => last 0 pos many (by omega)
  | succ d ih =>
    intro pos many hd hp hm hz
    by_cases hlt : pos < s.size
    · have hl : s.data.toList.length = s.size := (Lib.size_eq s).symm
      have hne : s.data.toList.drop pos ≠ [] := by
        intro h
        have := congrArg List.length h
        rw [List.length_drop, List.length_nil] at this
        omega
      rcases rune_step s pos hlt hs with ⟨R, K, e1, e2, p1, p2, p3, p4⟩ | ⟨e2, p1⟩
      · have hv : Lib.validD (s.data.toList.drop pos) = Lib.validD (s.data.toList.drop (pos + K)) := by
          rw [Lib.validD_step _ hne, Lib.decodeL_drop, e1]
          simp only
          rw [if_neg (by omega), List.drop_drop]
        have hc : Lib.runeCountFrom s (d + 1) pos = 1 + Lib.runeCountFrom s d (pos + K) := by
          simp only [Lib.runeCountFrom]
          rw [if_pos hlt, e1]
        have hr : Hand.runesFrom s (d + 1) pos = (Hand.runeB (R : Int) (pos == 0) && Hand.runesFrom s d (pos + K)) := by
          simp only [Hand.runesFrom]
          rw [if_pos hlt, e1]
        have q := ih (pos + K) (many + 1) (by omega) (by omega) (by omega) (by omega)
        rw [hv, hc, hr]
        have ew1 := Aside0.mk (show wrap64 ((many : Int) + 1) = ((many + 1 : Nat) : Int) from (w64 (by omega) (by omega)).trans (by omega))
        have ew2 := Aside0.mk (show wrap64 ((pos : Int) + (K : Int)) = ((pos + K : Nat) : Int) from (w64 (by omega) (by omega)).trans (by omega))
        have q2 : Hand.runeB (R : Int) (pos == 0) = true → Ev (fun k => spec_WordOk.l0 k s (wrap64 ((many : Int) + 1)) (wrap64 ((pos : Int) + (K : Int)))) (Lib.validD (s.data.toList.drop (pos + K)) && decide (1 ≤ many + (1 + Lib.runeCountFrom s d (pos + K)) ∧ many + (1 + Lib.runeCountFrom s d (pos + K)) ≤ 16) && (Hand.runeB (R : Int) (pos == 0) && Hand.runesFrom s d (pos + K))) := by
          intro h
          rw [ew1.out, ew2.out, h, Bool.true_and, show many + (1 + Lib.runeCountFrom s d (pos + K)) = many + 1 + Lib.runeCountFrom s d (pos + K) by omega]
          exact q
        have q3 : Hand.runeB (R : Int) (pos == 0) = false → false = (Lib.validD (s.data.toList.drop (pos + K)) && decide (1 ≤ many + (1 + Lib.runeCountFrom s d (pos + K)) ∧ many + (1 + Lib.runeCountFrom s d (pos + K)) ≤ 16) && (Hand.runeB (R : Int) (pos == 0) && Hand.runesFrom s d (pos + K))) := by
          intro h
          rw [h, Bool.false_and, Bool.and_false]
        refine ev_unroll ?_
        simp only [spec_WordOk.l0, if_pos (show (pos : Int) < (s.size : Int) by omega), e2, Option.bind_some, if_neg (show ¬ (K : Int) = 0 by omega), spec_letter_eq]
        cases hL : Hand.letterB (R : Int)
        · simp only [Bool.false_eq_true, if_false]
          by_cases h0 : many = 0
          · have h1 : pos = 0 := hz.1 h0
            have hB : Hand.runeB (R : Int) (pos == 0) = false := by unfold Hand.runeB; rw [hL, h1]; rfl
            simp only [if_pos (show (many : Int) = 0 by omega)]
            exact ev_eq (Ev.now _) (q3 hB)
          · have h1 : (pos == 0) = false := beq_eq_false_iff_ne.mpr (fun h => h0 (hz.2 h))
            have hB : Hand.runeB (R : Int) (pos == 0) = Hand.signB (R : Int) := by unfold Hand.runeB; rw [hL, h1]; rfl
            simp only [if_neg (show ¬ (many : Int) = 0 by omega)]
            by_cases s1 : (R : Int) = 45
            · simp only [if_pos s1]; exact q2 (by rw [hB, s1]; rfl)
            simp only [if_neg s1]
            by_cases s2 : (R : Int) = 95
            · simp only [if_pos s2]; exact q2 (by rw [hB, s2]; rfl)
            simp only [if_neg s2]
            by_cases s3 : (R : Int) = 46
            · simp only [if_pos s3]; exact q2 (by rw [hB, s3]; rfl)
            simp only [if_neg s3, l1In_eq, Option.bind_some]
            by_cases s4 : 48 ≤ (R : Int) ∧ (R : Int) ≤ 57
            · simp only [decide_eq_true s4, if_true]
              exact q2 (by rw [hB]; unfold Hand.signB; rw [decide_eq_true s4]; rfl)
            · simp only [decide_eq_false s4, Bool.false_eq_true, if_false]
              refine ev_eq (Ev.now _) (q3 ?_)
              rw [hB]
              unfold Hand.signB
              rw [decide_eq_false s4, decide_eq_false s1, decide_eq_false s2, decide_eq_false s3]
              rfl
        · simp only [if_true]
          exact q2 (by unfold Hand.runeB; rw [hL]; rfl)
      · have hr : Hand.runesFrom s (d + 1) pos = false := by
          simp only [Hand.runesFrom]
          rw [if_pos hlt, high_rune _ p1, Bool.false_and]
        rw [hr, Bool.and_false]
        refine ev_unroll ?_
        simp only [spec_WordOk.l0, if_pos (show (pos : Int) < (s.size : Int) by omega), e2, Option.bind_some, if_true]
        exact Ev.now _
    · exact last (d + 1) pos many (by omega)
theorem word_ev (s : ByteArray) (hs : s.size ≤ 140737488351232) : Ev (fun k => spec_WordOk.f k s) (Hand.wordB s) := by
  have h := word_from s hs s.size 0 0 (by omega) (by omega) (by omega) (by omega)
  simp only [Nat.zero_add, List.drop_zero] at h
  exact h
theorem impl_word_ev (s : ByteArray) (hs : s.size ≤ 140737488351232) : Ev (fun k => impl_WordOk.f k s) (Hand.wordB s) := by
  refine ⟨0, fun k _ => ?_⟩
  simp only [impl_WordOk.f, if_pos hs]
theorem digit_byte (b : Nat) (h : b < 256) : Hand.digitB (UInt8.ofNat b) = decide (48 ≤ b ∧ b ≤ 57) := by
  unfold Hand.digitB
  rw [UInt8.toNat_ofNat', Nat.mod_eq_of_lt h]
theorem value_from (s : ByteArray) (hs : s.size ≤ 140737488351232) : ∀ (d pos : Nat), s.size - pos ≤ d → pos ≤ s.size →
    Ev (fun k => spec_l19Value.l0 k s (pos : Int)) (decide (1 ≤ s.size ∧ s.size ≤ 9) && (s.data.toList.drop pos).all Hand.digitB) := by
  have last : ∀ pos : Nat, pos = s.size → Ev (fun k => spec_l19Value.l0 k s (pos : Int)) (decide (1 ≤ s.size ∧ s.size ≤ 9) && (s.data.toList.drop pos).all Hand.digitB) := by
    intro pos hp
    refine ev_unroll ?_
    simp only [spec_l19Value.l0, if_neg (show ¬ (pos : Int) < (s.size : Int) by omega), l1In_eq, Option.bind_some]
    refine ev_eq (Ev.now _) ?_
    rw [List.drop_eq_nil_of_le (by rw [hp]; exact Nat.le_of_eq (Lib.size_eq s).symm), List.all_nil, Bool.and_true, decide_eq_decide]
    omega
  intro d
  induction d with
  | zero => exact fun pos hd hp => last pos (by omega)
  | succ d ih =>
    intro pos hd hp
    by_cases hlt : pos < s.size
    · have hl : s.data.toList.length = s.size := (Lib.size_eq s).symm
      have q := ih (pos + 1) (by omega) (by omega)
      have hb := Aside0.mk (bt_get s pos hlt)
      have hw := Aside0.mk (show wrap64 ((pos : Int) + 1) = ((pos + 1 : Nat) : Int) from (w64 (by omega) (by omega)).trans (by omega))
      have k0 := (s.get! pos).toNat_lt
      have e1 : s.data.toList.drop pos = s.get! pos :: s.data.toList.drop (pos + 1) := by
        rw [List.drop_eq_getElem_cons (show pos < s.data.toList.length by omega)]
        congr 1
        rw [Utf8W.get!_of_lt s pos hlt]
        rfl
      have e2 : Hand.digitB (s.get! pos) = decide (48 ≤ (s.get! pos).toNat ∧ (s.get! pos).toNat ≤ 57) := rfl
      rw [e1, List.all_cons, e2]
      generalize (s.get! pos).toNat = b0 at hb k0
      refine ev_unroll ?_
      simp only [spec_l19Value.l0, if_pos (show (pos : Int) < (s.size : Int) by omega), if_pos (show (0 : Int) ≤ (pos : Int) by omega), hb.out, hw.out]
      by_cases c0 : (b0 : Int) < 48
      · simp only [if_pos c0]
        refine ev_eq (Ev.now _) ?_
        rw [decide_eq_false (show ¬ (48 ≤ b0 ∧ b0 ≤ 57) by omega), Bool.false_and, Bool.and_false]
      simp only [if_neg c0]
      by_cases c1 : (b0 : Int) > 57
      · simp only [if_pos c1]
        refine ev_eq (Ev.now _) ?_
        rw [decide_eq_false (show ¬ (48 ≤ b0 ∧ b0 ≤ 57) by omega), Bool.false_and, Bool.and_false]
      simp only [if_neg c1]
      rw [decide_eq_true (show 48 ≤ b0 ∧ b0 ≤ 57 by omega), Bool.true_and]
      exact q
    · exact last pos (by omega)
theorem value_ev (s : ByteArray) (hs : s.size ≤ 140737488351232) : Ev (fun k => spec_l19Value.f k s) (Hand.valueB s) := by
  unfold spec_l19Value.f Hand.valueB
  refine Ev.bind (word_ev s hs) ?_
  cases hw : Hand.wordB s
  · simp only [Bool.false_eq_true, if_false, Bool.false_or]
    have h := value_from s hs s.size 0 (by omega) (by omega)
    simp only [List.drop_zero] at h
    exact h
  · simp only [if_true, Bool.true_or]
    exact Ev.now _
theorem impl_value_ev (s : ByteArray) (hs : s.size ≤ 140737488351232) : Ev (fun k => impl_valueOk.f k s) (Hand.valueB s) := by
  refine ⟨0, fun k _ => ?_⟩
  simp only [impl_valueOk.f, if_pos hs]
def Small (l : List S38) : Prop := l.length ≤ 1048576 ∧ ∀ x ∈ l, x.f0.size ≤ 1048576 ∧ x.f1.size ≤ 1048576
theorem rd38_mem (l : List S38) (i : Nat) (h : i < l.length) : rd_T38 l (i : Int) ∈ l := by
  have e : rd_T38 l (i : Int) = l[i] := by simp [rd_T38, h]
  rw [e]; exact List.getElem_mem h
/-- Both sides of SettingsOk. -/
theorem settings_from (l : List S38) (hl : Small l) : ∀ (d i : Nat), l.length - i ≤ d → i ≤ l.length →
    ∃ b, Ev (fun k => spec_SettingsOk.l0 k l (i : Int)) b ∧ Ev (fun k => impl_SettingsOk.l0 k l l (l.length : Int) (i : Int)) b := by
  have hn := hl.1
  have last : ∀ i : Nat, i = l.length → ∃ b, Ev (fun k => spec_SettingsOk.l0 k l (i : Int)) b ∧ Ev (fun k => impl_SettingsOk.l0 k l l (l.length : Int) (i : Int)) b := by
    intro i hi
    refine ⟨decide ((l.length : Int) ≤ 40), ev_unroll ?_, ev_unroll ?_⟩
    · simp only [spec_SettingsOk.l0, if_neg (show ¬ (i : Int) < (l.length : Int) by omega)]
      exact Ev.now _
    · simp only [impl_SettingsOk.l0, if_neg (show ¬ (i : Int) < (l.length : Int) by omega)]
      exact Ev.now _
  intro d
  induction d with
  | zero => exact fun i hd hi => last i (by omega)
  | succ d ih =>
    intro i hd hi
    by_cases hlt : i < l.length
    · obtain ⟨s0, s1⟩ := hl.2 _ (rd38_mem l i hlt)
      have hw := Aside0.mk (show wrap64 ((i : Int) + 1) = ((i + 1 : Nat) : Int) from (w64 (by omega) (by omega)).trans (by omega))
      have hw2 := Aside0.mk (show wrap64 ((i : Int) - 1) = (i : Int) - 1 from w64 (by omega) (by omega))
      obtain ⟨b, p, q⟩ := ih (i + 1) (by omega) (by omega)
      have hi1 : (i : Int) < (l.length : Int) := by omega
      have hi0 : (0 : Int) ≤ (i : Int) := by omega
      have w1 := word_ev (rd_T38 l (i : Int)).f0 (by omega)
      have w2 := impl_word_ev (rd_T38 l (i : Int)).f0 (by omega)
      have v1 := value_ev (rd_T38 l (i : Int)).f1 (by omega)
      have v2 := impl_value_ev (rd_T38 l (i : Int)).f1 (by omega)
      cases hW : Hand.wordB (rd_T38 l (i : Int)).f0
      · rw [hW] at w1 w2
        refine ⟨false, ev_unroll ?_, ev_unroll ?_⟩
        · simp only [spec_SettingsOk.l0, if_pos hi1, if_pos hi0]
          refine Ev.bind w1 ?_
          simp only [Bool.false_eq_true, if_false]
          exact Ev.now _
        · simp only [impl_SettingsOk.l0, if_pos hi1, if_pos hi0]
          refine Ev.bind w2 ?_
          simp only [Bool.false_eq_true, if_false]
          exact Ev.now _
      rw [hW] at w1 w2
      cases hV : Hand.valueB (rd_T38 l (i : Int)).f1
      · rw [hV] at v1 v2
        refine ⟨false, ev_unroll ?_, ev_unroll ?_⟩
        · simp only [spec_SettingsOk.l0, if_pos hi1, if_pos hi0]
          refine Ev.bind w1 ?_
          simp only [if_true]
          refine Ev.bind v1 ?_
          simp only [Bool.false_eq_true, if_false]
          exact Ev.now _
        · simp only [impl_SettingsOk.l0, if_pos hi1, if_pos hi0]
          refine Ev.bind w2 ?_
          simp only [if_true]
          refine Ev.bind v2 ?_
          simp only [Bool.false_eq_true, if_false]
          exact Ev.now _
      rw [hV] at v1 v2
      by_cases hz : (i : Int) > 0
      · have hj : (0 : Int) ≤ (i : Int) - 1 := by omega
        have hj2 : (i : Int) - 1 < (l.length : Int) := by omega
        by_cases hc : Op.bytesLess (rd_T38 l ((i : Int) - 1)).f0.toList (rd_T38 l (i : Int)).f0.toList = true
        · refine ⟨b, ev_unroll ?_, ev_unroll ?_⟩
          · simp only [spec_SettingsOk.l0, if_pos hi1, if_pos hi0]
            refine Ev.bind w1 ?_
            simp only [if_true]
            refine Ev.bind v1 ?_
            simp only [if_true, if_pos hz, hw2.out, if_pos hj, if_pos hj2, if_pos hc, hw.out]
            exact p
          · simp only [impl_SettingsOk.l0, if_pos hi1, if_pos hi0]
            refine Ev.bind w2 ?_
            simp only [if_true]
            refine Ev.bind v2 ?_
            simp only [if_true, if_pos hz, hw2.out, if_pos hj, if_pos hj2, if_pos hc, hw.out]
            exact q
        · refine ⟨false, ev_unroll ?_, ev_unroll ?_⟩
          · simp only [spec_SettingsOk.l0, if_pos hi1, if_pos hi0]
            refine Ev.bind w1 ?_
            simp only [if_true]
            refine Ev.bind v1 ?_
            simp only [if_true, if_pos hz, hw2.out, if_pos hj, if_pos hj2, if_neg hc]
            exact Ev.now _
          · simp only [impl_SettingsOk.l0, if_pos hi1, if_pos hi0]
            refine Ev.bind w2 ?_
            simp only [if_true]
            refine Ev.bind v2 ?_
            simp only [if_true, if_pos hz, hw2.out, if_pos hj, if_pos hj2, if_neg hc]
            exact Ev.now _
      · refine ⟨b, ev_unroll ?_, ev_unroll ?_⟩
        · simp only [spec_SettingsOk.l0, if_pos hi1, if_pos hi0]
          refine Ev.bind w1 ?_
          simp only [if_true]
          refine Ev.bind v1 ?_
          simp only [if_true, if_neg hz, hw.out]
          exact p
        · simp only [impl_SettingsOk.l0, if_pos hi1, if_pos hi0]
          refine Ev.bind w2 ?_
          simp only [if_true]
          refine Ev.bind v2 ?_
          simp only [if_true, if_neg hz, hw.out]
          exact q
    · exact last i (by omega)
theorem settings_both (l : List S38) (hl : Small l) : ∃ b, Ev (fun k => spec_SettingsOk.f k l) b ∧ Ev (fun k => impl_SettingsOk.f k l) b :=
  settings_from l hl l.length 0 (by omega) (by omega)
theorem bl_cons (a b : UInt8) (x y : List UInt8) : Op.bytesLess (a :: x) (b :: y) = (decide (a < b) || (a == b && Op.bytesLess x y)) := rfl
theorem bl_irrefl : ∀ x : List UInt8, Op.bytesLess x x = false := by
  intro x
  induction x with
  | nil => rfl
  | cons a x ih => rw [bl_cons, ih]; simp
theorem bl_trans : ∀ x y z : List UInt8, Op.bytesLess x y = true → Op.bytesLess y z = true → Op.bytesLess x z = true := by
  intro x
  induction x with
  | nil =>
    intro y z h1 h2
    cases z with
    | nil => cases y <;> cases h2
    | cons c z => rfl
  | cons a x ih =>
    intro y z h1 h2
    cases y with
    | nil => cases h1
    | cons b y =>
      cases z with
      | nil => cases h2
      | cons c z =>
        rw [bl_cons] at h1 h2 ⊢
        simp only [Bool.or_eq_true, Bool.and_eq_true, decide_eq_true_eq, beq_iff_eq] at h1 h2 ⊢
        rcases h1 with h1 | ⟨e1, h1⟩ <;> rcases h2 with h2 | ⟨e2, h2⟩
        · exact .inl (by rw [UInt8.lt_iff_toNat_lt] at h1 h2 ⊢; omega)
        · exact .inl (by rw [← e2]; exact h1)
        · exact .inl (by rw [e1]; exact h2)
        · exact .inr ⟨e1.trans e2, ih y z h1 h2⟩
/-- What SettingsOk says yes to rises. -/
theorem rise_of (l : List S38) (hl : l.length ≤ 1048576) : ∀ (k i : Nat), spec_SettingsOk.l0 k l (i : Int) = some true → ∀ j, i ≤ j → j < l.length → 0 < j → Op.bytesLess (rd_T38 l ((j : Int) - 1)).f0.toList (rd_T38 l (j : Int)).f0.toList = true := by
  intro k
  induction k with
  | zero => intro i h; simp [spec_SettingsOk.l0] at h
  | succ k ih =>
    intro i h j hij hj h0
    have hw := Aside0.mk (show wrap64 ((i : Int) + 1) = ((i + 1 : Nat) : Int) from (w64 (by omega) (by omega)).trans (by omega))
    simp only [spec_SettingsOk.l0, if_pos (show (i : Int) < (l.length : Int) by omega), if_pos (show (0 : Int) ≤ (i : Int) by omega), hw.out] at h
    obtain ⟨t, _, h⟩ := Option.bind_eq_some_iff.mp h
    cases t
    · simp at h
    simp only [if_true] at h
    obtain ⟨t, _, h⟩ := Option.bind_eq_some_iff.mp h
    cases t
    · simp at h
    simp only [if_true] at h
    by_cases hz : (i : Int) > 0
    · have hw2 := Aside0.mk (show wrap64 ((i : Int) - 1) = (i : Int) - 1 from w64 (by omega) (by omega))
      simp only [if_pos hz, hw2.out, if_pos (show (0 : Int) ≤ (i : Int) - 1 by omega), if_pos (show (i : Int) - 1 < (l.length : Int) by omega)] at h
      by_cases hc : Op.bytesLess (rd_T38 l ((i : Int) - 1)).f0.toList (rd_T38 l (i : Int)).f0.toList = true
      · rw [if_pos hc] at h
        by_cases e : j = i
        · subst e; exact hc
        · exact ih (i + 1) h j (by omega) hj h0
      · rw [if_neg hc] at h
        simp at h
    · rw [if_neg hz] at h
      exact ih (i + 1) h j (by omega) hj h0
theorem rise_all (l : List S38) (h : ∀ j : Nat, j < l.length → 0 < j → Op.bytesLess (rd_T38 l ((j : Int) - 1)).f0.toList (rd_T38 l (j : Int)).f0.toList = true) : ∀ i j : Nat, i < j → j < l.length → Op.bytesLess (rd_T38 l (i : Int)).f0.toList (rd_T38 l (j : Int)).f0.toList = true := by
  intro i j
  induction j with
  | zero => intro hij; omega
  | succ j ih =>
    intro hij hj
    have h1 := h (j + 1) hj (by omega)
    rw [show ((j + 1 : Nat) : Int) - 1 = (j : Int) by omega] at h1
    by_cases e : i = j
    · subst e; exact h1
    · exact bl_trans _ _ _ (ih (by omega) (by omega)) h1
theorem rd38_get (l : List S38) (i : Nat) (h : i < l.length) : rd_T38 l (i : Int) = l[i] := by simp [rd_T38, h]
/-- Where the list rises, what the map says of a name is the setting that has it. -/
theorem look_at (l : List S38) (n : ByteArray) (i : Nat) (hi : i < l.length) (hn : l[i].f0 = n) (hu : ∀ j (hj : j < l.length), l[j].f0 = n → j = i) : Hand.look l n = (l[i].f1, true) := by
  unfold Hand.look
  cases h : l.reverse.find? (fun s => decide (s.f0 = n)) with
  | none =>
    have := List.find?_eq_none.mp h l[i] (by simp)
    simp [hn] at this
  | some s =>
    have h1 := List.find?_some h
    have h2 := List.mem_of_find?_eq_some h
    rw [List.mem_reverse] at h2
    obtain ⟨j, hj, rfl⟩ := List.mem_iff_getElem.mp h2
    have h3 := hu j hj (by simpa using h1)
    subst h3
    rfl
theorem look_none (l : List S38) (n : ByteArray) (h : ∀ x ∈ l, x.f0 ≠ n) : Hand.look l n = (⟨#[]⟩, false) := by
  unfold Hand.look
  rw [List.find?_eq_none.mpr]
  intro x hx
  rw [List.mem_reverse] at hx
  simpa using h x hx
theorem tl_eq (a b : ByteArray) : a.toList = b.toList ↔ a = b := by
  constructor
  · intro h
    rw [Lib.toList_data, Lib.toList_data] at h
    exact Hand.bytes_ext h
  · intro h; rw [h]
/-- A list's names. -/
def N (l : List S38) : List (List UInt8) := l.map (fun s => s.f0.data.toList)
theorem N_length (l : List S38) : (N l).length = l.length := by simp [N]
theorem N_get (l : List S38) (i : Nat) (h : i < (N l).length) : (N l)[i] = (rd_T38 l (i : Int)).f0.data.toList := by
  rw [N_length] at h
  simp [N, rd_T38, h]
theorem N_drop (l : List S38) (i : Nat) (h : i < l.length) : (N l).drop i = (rd_T38 l (i : Int)).f0.data.toList :: (N l).drop (i + 1) := by
  have h2 : i < (N l).length := by rw [N_length]; exact h
  rw [List.drop_eq_getElem_cons h2, N_get]
theorem N_rise (l : List S38) (hl : l.length ≤ 1048576) (h : Ev (fun k => spec_SettingsOk.f k l) true) : (N l).Pairwise (· < ·) := by
  obtain ⟨K, hK⟩ := h
  have h1 := rise_of l hl K 0 (hK K (Nat.le_refl _))
  have h2 := rise_all l (fun j hj h0 => h1 j (by omega) hj h0)
  refine List.pairwise_iff_getElem.mpr (fun i j hi hj hij => ?_)
  have h3 := h2 i j hij (by rw [N_length] at hj; exact hj)
  rw [bytesLess_eq, decide_eq_true_eq, Lib.toList_data, Lib.toList_data] at h3
  rw [N_get, N_get]
  exact h3
theorem mkB (s : ByteArray) : (⟨s.data.toList.toArray⟩ : ByteArray) = s := Hand.bytes_ext (by simp)
theorem less_eq (a b : ByteArray) : Op.bytesLess a.toList b.toList = decide (a.data.toList < b.data.toList) := by
  rw [bytesLess_eq, Lib.toList_data, Lib.toList_data]
theorem look_in (l : List S38) (h : (N l).Pairwise (· < ·)) (i : Nat) (hi : i < l.length) : Hand.look l (rd_T38 l (i : Int)).f0 = ((rd_T38 l (i : Int)).f1, true) := by
  have e : rd_T38 l (i : Int) = l[i] := by simp [rd_T38, hi]
  rw [e]
  refine look_at l _ i hi rfl (fun j hj he => ?_)
  have hN : ∀ j (hj : j < l.length), (N l)[j]'(by rw [N_length]; exact hj) = l[j].f0.data.toList := fun j hj => by simp [N]
  rcases Nat.lt_trichotomy j i with h1 | h1 | h1
  · have := List.pairwise_iff_getElem.mp h j i (by rw [N_length]; exact hj) (by rw [N_length]; exact hi) h1
    rw [hN _ (by assumption), hN _ (by assumption), he] at this
    exact absurd this (List.lt_irrefl _)
  · exact h1
  · have := List.pairwise_iff_getElem.mp h i j (by rw [N_length]; exact hi) (by rw [N_length]; exact hj) h1
    rw [hN _ (by assumption), hN _ (by assumption), he] at this
    exact absurd this (List.lt_irrefl _)
theorem look_out (l : List S38) (n : ByteArray) (h : n.data.toList ∉ N l) : Hand.look l n = (⟨#[]⟩, false) := by
  refine look_none l n (fun x hx e => h ?_)
  unfold N
  exact List.mem_map.mpr ⟨x, hx, by rw [e]⟩
/-- The first of a row that rises. -/
theorem head_of {R : List (List UInt8)} {a : List UInt8} (hR : R.Pairwise (· < ·)) (ha : a ∈ R) (hm : ∀ x ∈ R, ¬ x < a) : ∃ R', R = a :: R' := by
  cases R with
  | nil => cases ha
  | cons h R' =>
    rcases List.mem_cons.mp ha with rfl | ha
    · exact ⟨R', rfl⟩
    · exact absurd ((List.pairwise_cons.mp hR).1 a ha) (hm h (by simp))
theorem drop_ge {M : List (List UInt8)} (h : M.Pairwise (· < ·)) {a : List UInt8} {T : List (List UInt8)} {i : Nat} (e : M.drop i = a :: T) : (∀ x ∈ M.drop i, ¬ x < a) ∧ a ∉ T ∧ (∀ x ∈ T, a < x) := by
  have hp : (a :: T).Pairwise (· < ·) := by rw [← e]; exact h.sublist (List.drop_sublist _ _)
  have h1 := (List.pairwise_cons.mp hp).1
  refine ⟨fun x hx => ?_, fun hm => List.lt_irrefl _ (h1 a hm), h1⟩
  rw [e] at hx
  rcases List.mem_cons.mp hx with rfl | hx
  · exact List.lt_irrefl _
  · exact List.lt_asymm (h1 x hx)
section
variable (l0 l1 : List S38) (hok : Hand.DiffOk l0 l1) (r0 : (N l0).Pairwise (· < ·)) (r1 : (N l1).Pairwise (· < ·))
/-- How far the reference has come: what is done, what is left. -/
structure At (i j : Nat) (D R : List (List UInt8)) (x : ByteArray) : Prop where
  all : Hand.names l0 l1 = D ++ R
  left : ∀ n, n ∈ R ↔ n ∈ (N l0).drop i ∨ n ∈ (N l1).drop j
  done0 : ∀ n ∈ (N l0).take i, n ∈ D
  done1 : ∀ n ∈ (N l1).take j, n ∈ D
  text : x.data.toList = D.flatMap (Hand.lineS l0 l1)
include hok in
theorem At_size {i j : Nat} {D R : List (List UInt8)} {x : ByteArray} (h : At l0 l1 i j D R x) : x.size ≤ 4398067482624 := by
  have h1 := Hand.names_length l0 l1 hok
  have h2 := Hand.text_cells l0 l1 hok D.length (by rw [h.all, List.length_append] at h1; omega)
  rw [Lib.byteCells_length, h.all, List.take_left, ← h.text, ← Lib.size_eq] at h2
  exact h2
theorem At_rise {i j : Nat} {D R : List (List UInt8)} {x : ByteArray} (h : At l0 l1 i j D R x) : R.Pairwise (· < ·) ∧ ∀ n ∈ R, n ∉ D := by
  have hs : (D ++ R).Pairwise (· < ·) := by rw [← h.all]; exact Hand.setN_lt _
  have := List.pairwise_append.mp hs
  exact ⟨this.2.1, fun n hn hd => List.lt_irrefl _ (this.2.2 n hd n hn)⟩
theorem not_in {l : List S38} {j : Nat} {D : List (List UInt8)} {n : List UInt8} (hd : ∀ n ∈ (N l).take j, n ∈ D) (h1 : n ∉ (N l).drop j) (h2 : n ∉ D) : n ∉ N l := by
  intro hm
  rw [← List.take_append_drop j (N l)] at hm
  rcases List.mem_append.mp hm with h | h
  · exact h2 (hd n h)
  · exact h1 h
theorem take_more {l : List S38} {i : Nat} {D : List (List UInt8)} (hi : i < l.length) (hd : ∀ n ∈ (N l).take i, n ∈ D) : ∀ n ∈ (N l).take (i + 1), n ∈ D ++ [(rd_T38 l (i : Int)).f0.data.toList] := by
  intro n hn
  have h2 : i < (N l).length := by rw [N_length]; exact hi
  rw [List.take_succ_eq_append_getElem h2, N_get] at hn
  rcases List.mem_append.mp hn with h | h
  · exact List.mem_append_left _ (hd n h)
  · exact List.mem_append_right _ h
include r0 in
/-- A name of the first list alone. -/
theorem At_unset {i j : Nat} {D R : List (List UInt8)} {x : ByteArray} (h : At l0 l1 i j D R x) (hi : i < l0.length) (hj : ∀ n ∈ (N l1).drop j, (rd_T38 l0 (i : Int)).f0.data.toList < n) :
    ∃ R', At l0 l1 (i + 1) j (D ++ [(rd_T38 l0 (i : Int)).f0.data.toList]) R' (((x ++ (⟨#[117, 110, 115, 101, 116, 32]⟩ : ByteArray)) ++ (rd_T38 l0 (i : Int)).f0) ++ (⟨#[10]⟩ : ByteArray)) := by
  obtain ⟨hR, hRD⟩ := At_rise l0 l1 h
  have e0 := N_drop l0 i hi
  have hm0 := mkB (rd_T38 l0 (i : Int)).f0
  generalize (rd_T38 l0 (i : Int)).f0 = A at *
  obtain ⟨g1, g2, g3⟩ := drop_ge r0 e0
  have ha : A.data.toList ∈ R := (h.left _).mpr (.inl (by rw [e0]; simp))
  obtain ⟨R', rfl⟩ := head_of hR ha (fun x hx => by
    rcases (h.left x).mp hx with h1 | h1
    · exact g1 x h1
    · exact List.lt_asymm (hj x h1))
  have hn1 : A.data.toList ∉ (N l1).drop j := fun hm => List.lt_irrefl _ (hj _ hm)
  have hp := List.pairwise_cons.mp hR
  refine ⟨R', by rw [h.all]; simp, fun n => ?_, ?_, fun n hn => List.mem_append_left _ (h.done1 n hn), ?_⟩
  · have := h.left n
    rw [List.mem_cons, e0, List.mem_cons] at this
    constructor
    · intro hn
      rcases this.mp (.inr hn) with (rfl | h2) | h2
      · exact absurd (hp.1 _ hn) (List.lt_irrefl _)
      · exact .inl h2
      · exact .inr h2
    · intro hn
      have h2 : n = A.data.toList ∨ n ∈ R' := this.mpr (by rcases hn with hn | hn; exact .inl (.inr hn); exact .inr hn)
      rcases h2 with rfl | h2
      · rcases hn with hn | hn
        · exact absurd hn g2
        · exact absurd hn hn1
      · exact h2
  · intro n hn
    have h2 : i < (N l0).length := by rw [N_length]; exact hi
    have e1 : (N l0)[i] = A.data.toList := by
      have := List.drop_eq_getElem_cons h2
      rw [e0] at this
      injection this with e1 _
      exact e1.symm
    rw [List.take_succ_eq_append_getElem h2, e1] at hn
    rcases List.mem_append.mp hn with h3 | h3
    · exact List.mem_append_left _ (h.done0 n h3)
    · exact List.mem_append_right _ h3
  · have hl : Hand.lineS l0 l1 A.data.toList = [117, 110, 115, 101, 116, 32] ++ A.data.toList ++ [10] := by
      unfold Hand.lineS
      rw [hm0, look_out l1 A (not_in h.done1 hn1 (hRD _ (by simp)))]
      simp
    rw [Hand.toList_app, Hand.toList_app, Hand.toList_app, h.text, List.flatMap_append]
    simp [hl]
include r1 in
/-- A name of the second list alone. -/
theorem At_set {i j : Nat} {D R : List (List UInt8)} {x : ByteArray} (h : At l0 l1 i j D R x) (hj : j < l1.length) (hi : ∀ n ∈ (N l0).drop i, (rd_T38 l1 (j : Int)).f0.data.toList < n) :
    ∃ R', At l0 l1 i (j + 1) (D ++ [(rd_T38 l1 (j : Int)).f0.data.toList]) R' (((((x ++ (⟨#[115, 101, 116, 32]⟩ : ByteArray)) ++ (rd_T38 l1 (j : Int)).f0) ++ (⟨#[32]⟩ : ByteArray)) ++ (rd_T38 l1 (j : Int)).f1) ++ (⟨#[10]⟩ : ByteArray)) := by
  obtain ⟨hR, hRD⟩ := At_rise l0 l1 h
  have e0 := N_drop l1 j hj
  have hl1 := look_in l1 r1 j hj
  have hm0 := mkB (rd_T38 l1 (j : Int)).f0
  generalize (rd_T38 l1 (j : Int)).f0 = A at *
  generalize (rd_T38 l1 (j : Int)).f1 = V at *
  obtain ⟨g1, g2, g3⟩ := drop_ge r1 e0
  have ha : A.data.toList ∈ R := (h.left _).mpr (.inr (by rw [e0]; simp))
  obtain ⟨R', rfl⟩ := head_of hR ha (fun x hx => by
    rcases (h.left x).mp hx with h1 | h1
    · exact List.lt_asymm (hi x h1)
    · exact g1 x h1)
  have hn0 : A.data.toList ∉ (N l0).drop i := fun hm => List.lt_irrefl _ (hi _ hm)
  have hp := List.pairwise_cons.mp hR
  refine ⟨R', by rw [h.all]; simp, fun n => ?_, fun n hn => List.mem_append_left _ (h.done0 n hn), ?_, ?_⟩
  · have := h.left n
    rw [List.mem_cons, e0, List.mem_cons] at this
    constructor
    · intro hn
      rcases this.mp (.inr hn) with h2 | (rfl | h2)
      · exact .inl h2
      · exact absurd (hp.1 _ hn) (List.lt_irrefl _)
      · exact .inr h2
    · intro hn
      have h2 : n = A.data.toList ∨ n ∈ R' := this.mpr (by rcases hn with hn | hn; exact .inl hn; exact .inr (.inr hn))
      rcases h2 with rfl | h2
      · rcases hn with hn | hn
        · exact absurd hn hn0
        · exact absurd hn g2
      · exact h2
  · intro n hn
    have h2 : j < (N l1).length := by rw [N_length]; exact hj
    have e1 : (N l1)[j] = A.data.toList := by
      have := List.drop_eq_getElem_cons h2
      rw [e0] at this
      injection this with e1 _
      exact e1.symm
    rw [List.take_succ_eq_append_getElem h2, e1] at hn
    rcases List.mem_append.mp hn with h3 | h3
    · exact List.mem_append_left _ (h.done1 n h3)
    · exact List.mem_append_right _ h3
  · have hl : Hand.lineS l0 l1 A.data.toList = [115, 101, 116, 32] ++ A.data.toList ++ [32] ++ V.data.toList ++ [10] := by
      unfold Hand.lineS
      rw [hm0, hl1, look_out l0 A (not_in h.done0 hn0 (hRD _ (by simp)))]
      simp
    rw [Hand.toList_app, Hand.toList_app, Hand.toList_app, Hand.toList_app, Hand.toList_app, h.text, List.flatMap_append]
    simp [hl]
include r0 r1 in
/-- A name of both. -/
theorem At_both {i j : Nat} {D R : List (List UInt8)} {x : ByteArray} (h : At l0 l1 i j D R x) (hi : i < l0.length) (hj : j < l1.length) (he : (rd_T38 l0 (i : Int)).f0 = (rd_T38 l1 (j : Int)).f0) :
    ∃ R', At l0 l1 (i + 1) (j + 1) (D ++ [(rd_T38 l1 (j : Int)).f0.data.toList]) R' (if (rd_T38 l0 (i : Int)).f1 = (rd_T38 l1 (j : Int)).f1 then x else (((((x ++ (⟨#[115, 101, 116, 32]⟩ : ByteArray)) ++ (rd_T38 l1 (j : Int)).f0) ++ (⟨#[32]⟩ : ByteArray)) ++ (rd_T38 l1 (j : Int)).f1) ++ (⟨#[10]⟩ : ByteArray))) := by
  obtain ⟨hR, hRD⟩ := At_rise l0 l1 h
  have e0 := N_drop l0 i hi
  have e1 := N_drop l1 j hj
  have hl0 := look_in l0 r0 i hi
  have hl1 := look_in l1 r1 j hj
  have hm0 := mkB (rd_T38 l1 (j : Int)).f0
  rw [he] at e0 hl0
  generalize (rd_T38 l1 (j : Int)).f0 = A at *
  generalize (rd_T38 l1 (j : Int)).f1 = V at *
  generalize (rd_T38 l0 (i : Int)).f1 = U at *
  obtain ⟨g1, g2, g3⟩ := drop_ge r0 e0
  obtain ⟨k1, k2, k3⟩ := drop_ge r1 e1
  have ha : A.data.toList ∈ R := (h.left _).mpr (.inl (by rw [e0]; simp))
  obtain ⟨R', rfl⟩ := head_of hR ha (fun x hx => by
    rcases (h.left x).mp hx with h1 | h1
    · exact g1 x h1
    · exact k1 x h1)
  have hp := List.pairwise_cons.mp hR
  refine ⟨R', by rw [h.all]; simp, fun n => ?_, ?_, ?_, ?_⟩
  · have := h.left n
    rw [List.mem_cons, e0, e1, List.mem_cons, List.mem_cons] at this
    constructor
    · intro hn
      rcases this.mp (.inr hn) with (rfl | h2) | (rfl | h2)
      · exact absurd (hp.1 _ hn) (List.lt_irrefl _)
      · exact .inl h2
      · exact absurd (hp.1 _ hn) (List.lt_irrefl _)
      · exact .inr h2
    · intro hn
      have h2 : n = A.data.toList ∨ n ∈ R' := this.mpr (by rcases hn with hn | hn; exact .inl (.inr hn); exact .inr (.inr hn))
      rcases h2 with rfl | h2
      · rcases hn with hn | hn
        · exact absurd hn g2
        · exact absurd hn k2
      · exact h2
  · intro n hn
    have h2 : i < (N l0).length := by rw [N_length]; exact hi
    have e2 : (N l0)[i] = A.data.toList := by
      have := List.drop_eq_getElem_cons h2
      rw [e0] at this
      injection this with e2 _
      exact e2.symm
    rw [List.take_succ_eq_append_getElem h2, e2] at hn
    rcases List.mem_append.mp hn with h3 | h3
    · exact List.mem_append_left _ (h.done0 n h3)
    · exact List.mem_append_right _ h3
  · intro n hn
    have h2 : j < (N l1).length := by rw [N_length]; exact hj
    have e2 : (N l1)[j] = A.data.toList := by
      have := List.drop_eq_getElem_cons h2
      rw [e1] at this
      injection this with e2 _
      exact e2.symm
    rw [List.take_succ_eq_append_getElem h2, e2] at hn
    rcases List.mem_append.mp hn with h3 | h3
    · exact List.mem_append_left _ (h.done1 n h3)
    · exact List.mem_append_right _ h3
  · by_cases hv : U = V
    · have hl : Hand.lineS l0 l1 A.data.toList = [] := by
        unfold Hand.lineS
        rw [hm0, hl1, hl0, hv]
        simp
      rw [if_pos hv, h.text, List.flatMap_append]
      simp [hl]
    · have hl : Hand.lineS l0 l1 A.data.toList = [115, 101, 116, 32] ++ A.data.toList ++ [32] ++ V.data.toList ++ [10] := by
        unfold Hand.lineS
        rw [hm0, hl1, hl0]
        simp [hv]
      rw [if_neg hv, Hand.toList_app, Hand.toList_app, Hand.toList_app, Hand.toList_app, Hand.toList_app, h.text, List.flatMap_append]
      simp [hl]
include hok r0 r1 in
theorem diff_go : ∀ (d i j : Nat) (D R : List (List UInt8)) (x : ByteArray), (l0.length - i) + (l1.length - j) ≤ d → i ≤ l0.length → j ≤ l1.length → At l0 l1 i j D R x → Ev (fun k => spec_Diff19.l0 k l0 l1 x (i : Int) (j : Int)) (Hand.diffS l0 l1) := by
  have hn0 := hok.1.1
  have hn1 := hok.2.1
  intro d
  induction d with
  | zero =>
    intro i j D R x hd hi hj h
    have e : x = Hand.diffS l0 l1 := by
      have hR : R = [] := by
        refine List.eq_nil_iff_forall_not_mem.mpr (fun n hn => ?_)
        rcases (h.left n).mp hn with h1 | h1
        · rw [List.drop_eq_nil_of_le (by rw [N_length]; omega)] at h1; cases h1
        · rw [List.drop_eq_nil_of_le (by rw [N_length]; omega)] at h1; cases h1
      unfold Hand.diffS
      rw [h.all, hR, List.append_nil, ← h.text, mkB]
    subst e
    refine ev_unroll ?_
    simp only [spec_Diff19.l0, if_neg (show ¬ (i : Int) < (l0.length : Int) by omega), decide_eq_false (show ¬ (j : Int) < (l1.length : Int) by omega)]
    refine ev_unroll ?_
    simp only [spec_Diff19.j2, Bool.false_eq_true, if_false]
    exact Ev.now _
  | succ d ih =>
    intro i j D R x hd hi hj h
    by_cases hz : l0.length - i + (l1.length - j) = 0
    · exact ih i j D R x (by omega) hi hj h
    have hsz := Aside0.mk (At_size l0 l1 hok h)
    have hwi := Aside0.mk (show wrap64 ((i : Int) + 1) = ((i + 1 : Nat) : Int) from (w64 (by omega) (by omega)).trans (by omega))
    have hwj := Aside0.mk (show wrap64 ((j : Int) + 1) = ((j + 1 : Nat) : Int) from (w64 (by omega) (by omega)).trans (by omega))
    have s6 : ((⟨#[117, 110, 115, 101, 116, 32]⟩ : ByteArray)).size = 6 := rfl
    have s4 : ((⟨#[115, 101, 116, 32]⟩ : ByteArray)).size = 4 := rfl
    have s1 : ((⟨#[32]⟩ : ByteArray)).size = 1 := rfl
    have fA : i < l0.length → (rd_T38 l0 (i : Int)).f0.size ≤ 1048576 := fun hlt => (hok.1.2 _ (rd38_mem l0 i hlt)).1
    have fB : j < l1.length → (rd_T38 l1 (j : Int)).f0.size ≤ 1048576 ∧ (rd_T38 l1 (j : Int)).f1.size ≤ 1048576 := fun hlt => hok.2.2 _ (rd38_mem l1 j hlt)
    -- the first list's name alone
    have goA : i < l0.length → (∀ n ∈ (N l1).drop j, (rd_T38 l0 (i : Int)).f0.data.toList < n) → Ev (fun k => spec_Diff19.j3 k l0 l1 x (i : Int) (j : Int) true) (Hand.diffS l0 l1) := by
      intro hlt hlo
      obtain ⟨R', h'⟩ := At_unset l0 l1 r0 h hlt hlo
      have hA := fA hlt
      have hs := hsz.out
      have q := ih (i + 1) j _ R' _ (by omega) (by omega) hj h'
      refine ev_unroll ?_
      simp only [spec_Diff19.j3, if_true, if_pos (show (0 : Int) ≤ (i : Int) by omega), if_pos (show (i : Int) < (l0.length : Int) by omega), ByteArray.size_append, s6, hwi.out]
      simp only [if_pos (show x.size + 6 ≤ 9223372036854775807 by omega), if_pos (show x.size + 6 + (rd_T38 l0 (i : Int)).f0.size ≤ 9223372036854775807 by omega), if_pos (show x.size + 6 + (rd_T38 l0 (i : Int)).f0.size + 1 ≤ 9223372036854775807 by omega)]
      exact q
    -- what is written of the second list's name
    have put : j < l1.length → ∀ (f : Nat → Option ByteArray) (y : ByteArray), y = ((((x ++ (⟨#[115, 101, 116, 32]⟩ : ByteArray)) ++ (rd_T38 l1 (j : Int)).f0) ++ (⟨#[32]⟩ : ByteArray)) ++ (rd_T38 l1 (j : Int)).f1) ++ (⟨#[10]⟩ : ByteArray) → ∀ r, Ev f r →
        Ev (fun k => if x.size + 4 ≤ 9223372036854775807 then (if (x ++ (⟨#[115, 101, 116, 32]⟩ : ByteArray)).size + (rd_T38 l1 (j : Int)).f0.size ≤ 9223372036854775807 then (if ((x ++ (⟨#[115, 101, 116, 32]⟩ : ByteArray)) ++ (rd_T38 l1 (j : Int)).f0).size + 1 ≤ 9223372036854775807 then (if (((x ++ (⟨#[115, 101, 116, 32]⟩ : ByteArray)) ++ (rd_T38 l1 (j : Int)).f0) ++ (⟨#[32]⟩ : ByteArray)).size + (rd_T38 l1 (j : Int)).f1.size ≤ 9223372036854775807 then (if ((((x ++ (⟨#[115, 101, 116, 32]⟩ : ByteArray)) ++ (rd_T38 l1 (j : Int)).f0) ++ (⟨#[32]⟩ : ByteArray)) ++ (rd_T38 l1 (j : Int)).f1).size + 1 ≤ 9223372036854775807 then f k else none) else none) else none) else none) else none) r := by
      intro hlt f y _ r hf
      have hB := fB hlt
      have hs := hsz.out
      simp only [ByteArray.size_append, s4, s1]
      simp only [if_pos (show x.size + 4 ≤ 9223372036854775807 by omega), if_pos (show x.size + 4 + (rd_T38 l1 (j : Int)).f0.size ≤ 9223372036854775807 by omega), if_pos (show x.size + 4 + (rd_T38 l1 (j : Int)).f0.size + 1 ≤ 9223372036854775807 by omega), if_pos (show x.size + 4 + (rd_T38 l1 (j : Int)).f0.size + 1 + (rd_T38 l1 (j : Int)).f1.size ≤ 9223372036854775807 by omega), if_pos (show x.size + 4 + (rd_T38 l1 (j : Int)).f0.size + 1 + (rd_T38 l1 (j : Int)).f1.size + 1 ≤ 9223372036854775807 by omega)]
      exact hf
    have goB : j < l1.length → (∀ n ∈ (N l0).drop i, (rd_T38 l1 (j : Int)).f0.data.toList < n) → Ev (fun k => spec_Diff19.j4 k l0 l1 x (i : Int) (j : Int) true) (Hand.diffS l0 l1) := by
      intro hlt hlo
      obtain ⟨R', h'⟩ := At_set l0 l1 r1 h hlt hlo
      have q := ih i (j + 1) _ R' _ (by omega) hi (by omega) h'
      refine ev_unroll ?_
      simp only [spec_Diff19.j4, if_true, if_pos (show (0 : Int) ≤ (j : Int) by omega), if_pos (show (j : Int) < (l1.length : Int) by omega), hwj.out]
      exact put hlt _ _ rfl _ q
    have goC : ∀ (hlt : i < l0.length) (hlt2 : j < l1.length), (rd_T38 l0 (i : Int)).f0 = (rd_T38 l1 (j : Int)).f0 → Ev (fun k => spec_Diff19.j4 k l0 l1 x (i : Int) (j : Int) false) (Hand.diffS l0 l1) := by
      intro hlt hlt2 he
      obtain ⟨R', h'⟩ := At_both l0 l1 r0 r1 h hlt hlt2 he
      have q := ih (i + 1) (j + 1) _ R' _ (by omega) (by omega) (by omega) h'
      refine ev_unroll ?_
      simp only [spec_Diff19.j4, Bool.false_eq_true, if_false, if_pos (show (0 : Int) ≤ (j : Int) by omega), if_pos (show (j : Int) < (l1.length : Int) by omega), if_pos (show (0 : Int) ≤ (i : Int) by omega), if_pos (show (i : Int) < (l0.length : Int) by omega), hwi.out, hwj.out, tl_eq]
      by_cases hv : (rd_T38 l0 (i : Int)).f1 = (rd_T38 l1 (j : Int)).f1
      · simp only [if_pos hv] at q ⊢
        exact q
      · simp only [if_neg hv] at q ⊢
        exact put hlt2 _ _ rfl _ q
    refine ev_unroll ?_
    have enter : Ev (fun k => spec_Diff19.j2 k l0 l1 x (i : Int) (j : Int) true) (Hand.diffS l0 l1) := by
      refine ev_unroll ?_
      simp only [spec_Diff19.j2, if_true]
      by_cases ej : j = l1.length
      · simp only [if_pos (show (j : Int) = (l1.length : Int) by omega)]
        exact goA (by omega) (fun n hn => by rw [List.drop_eq_nil_of_le (by rw [N_length]; omega)] at hn; cases hn)
      · simp only [if_neg (show ¬ (j : Int) = (l1.length : Int) by omega)]
        by_cases ei : i < l0.length
        · simp only [if_pos (show (i : Int) < (l0.length : Int) by omega), if_pos (show (0 : Int) ≤ (i : Int) by omega), if_pos (show (0 : Int) ≤ (j : Int) by omega), if_pos (show (j : Int) < (l1.length : Int) by omega), less_eq]
          have g0 := drop_ge r0 (N_drop l0 i ei)
          have g1 := drop_ge r1 (N_drop l1 j (by omega))
          by_cases hc : (rd_T38 l0 (i : Int)).f0.data.toList < (rd_T38 l1 (j : Int)).f0.data.toList
          · simp only [decide_eq_true hc]
            exact goA ei (fun n hn => by
              rw [N_drop l1 j (by omega)] at hn
              rcases List.mem_cons.mp hn with rfl | hn
              · exact hc
              · exact List.lt_trans hc (g1.2.2 n hn))
          · simp only [decide_eq_false hc]
            refine ev_unroll ?_
            simp only [spec_Diff19.j3, Bool.false_eq_true, if_false, if_neg (show ¬ (i : Int) = (l0.length : Int) by omega), if_pos (show (0 : Int) ≤ (i : Int) by omega), if_pos (show (i : Int) < (l0.length : Int) by omega), if_pos (show (0 : Int) ≤ (j : Int) by omega), if_pos (show (j : Int) < (l1.length : Int) by omega), less_eq]
            by_cases hc2 : (rd_T38 l1 (j : Int)).f0.data.toList < (rd_T38 l0 (i : Int)).f0.data.toList
            · simp only [decide_eq_true hc2]
              exact goB (by omega) (fun n hn => by
                rw [N_drop l0 i ei] at hn
                rcases List.mem_cons.mp hn with rfl | hn
                · exact hc2
                · exact List.lt_trans hc2 (g0.2.2 n hn))
            · simp only [decide_eq_false hc2]
              refine goC ei (by omega) (Hand.bytes_ext ?_)
              exact List.le_antisymm (List.not_lt.mp hc2) (List.not_lt.mp hc)
        · simp only [if_neg (show ¬ (i : Int) < (l0.length : Int) by omega)]
          refine ev_unroll ?_
          simp only [spec_Diff19.j3, Bool.false_eq_true, if_false, if_pos (show (i : Int) = (l0.length : Int) by omega)]
          exact goB (by omega) (fun n hn => by rw [List.drop_eq_nil_of_le (by rw [N_length]; omega)] at hn; cases hn)
    by_cases ei : i < l0.length
    · simp only [spec_Diff19.l0, if_pos (show (i : Int) < (l0.length : Int) by omega)]
      exact enter
    · simp only [spec_Diff19.l0, if_neg (show ¬ (i : Int) < (l0.length : Int) by omega), decide_eq_true (show (j : Int) < (l1.length : Int) by omega)]
      exact enter
end
theorem At_start (l0 l1 : List S38) : At l0 l1 0 0 [] (Hand.names l0 l1) ⟨#[]⟩ := by
  refine ⟨rfl, fun n => ?_, fun n hn => (by cases hn), fun n hn => (by cases hn), rfl⟩
  simp only [List.drop_zero]
  unfold Hand.names
  rw [Hand.mem_setN, List.mem_append]
  rfl
theorem diff_both (l0 l1 : List S38) (h0 : Small l0) (h1 : Small l1) : ∃ r, Ev (fun k => spec_Diff19.f k l0 l1) r ∧ Ev (fun k => impl_Diff19.f k l0 l1) r := by
  have hok : Hand.DiffOk l0 l1 := ⟨h0, h1⟩
  obtain ⟨b0, ps0, pi0⟩ := settings_both l0 h0
  obtain ⟨b1, ps1, pi1⟩ := settings_both l1 h1
  have no : Ev (fun k => spec_Diff19.j0 k l0 l1 ⟨#[]⟩ true) (⟨#[]⟩ : ByteArray) := ev_unroll (by simp only [spec_Diff19.j0, if_true]; exact Ev.now _)
  cases b0
  · refine ⟨⟨#[]⟩, ?_, ?_⟩
    · simp only [spec_Diff19.f]
      refine Ev.bind ps0 ?_
      simp only [Bool.false_eq_true, if_false]
      exact no
    · simp only [impl_Diff19.f, if_pos hok]
      refine Ev.bind pi0 ?_
      simp only [Bool.false_eq_true, if_false]
      exact Ev.now _
  cases b1
  · refine ⟨⟨#[]⟩, ?_, ?_⟩
    · simp only [spec_Diff19.f]
      refine Ev.bind ps0 ?_
      simp only [if_true]
      refine Ev.bind ps1 ?_
      simp only [Bool.not_false]
      exact no
    · simp only [impl_Diff19.f, if_pos hok]
      refine Ev.bind pi0 ?_
      simp only [if_true]
      refine Ev.bind pi1 ?_
      simp only [Bool.false_eq_true, if_false]
      exact Ev.now _
  · refine ⟨Hand.diffS l0 l1, ?_, ?_⟩
    · simp only [spec_Diff19.f]
      refine Ev.bind ps0 ?_
      simp only [if_true]
      refine Ev.bind ps1 ?_
      simp only [Bool.not_true]
      refine ev_unroll ?_
      simp only [spec_Diff19.j0, Bool.false_eq_true, if_false]
      exact diff_go l0 l1 hok (N_rise l0 h0.1 ps0) (N_rise l1 h1.1 ps1) _ 0 0 [] _ _ (Nat.le_refl _) (by omega) (by omega) (At_start l0 l1)
    · simp only [impl_Diff19.f, if_pos hok]
      refine Ev.bind pi0 ?_
      simp only [if_true]
      refine Ev.bind pi1 ?_
      simp only [if_true]
      exact Ev.now _
theorem rdOf_mem {α : Type} [Inhabited α] (d : α) (l : List α) (i : Int) (h0 : 0 ≤ i) (h1 : i < (l.length : Int)) : rdOf d l i ∈ l := by
  have h : i.toNat < l.length := by omega
  have e : rdOf d l i = l[i.toNat] := by simp [rdOf, h]
  rw [e]; exact List.getElem_mem h
theorem l1Pick_some (b : List Int) (i h : Int) (l : List ByteArray) (hl : 0 < l.length) (hb : b.length ≤ 1048576) (h0 : 0 ≤ i) (h1 : i ≤ 1048576) :
    ∃ v i' h', spec_l1Pick.f b i h l = some (v, i', h') ∧ v ∈ l ∧ 0 ≤ i' ∧ i' ≤ 1048576 := by
  unfold spec_l1Pick.f
  obtain ⟨v, i1, s1, e1, p1, p2, p3, p4, p5⟩ := l1Below_some b i h (l.length : Int) hb h0 h1
  rw [e1]
  simp only [Option.bind_some]
  rw [if_pos p1, if_pos (p2 (by omega))]
  exact ⟨_, _, _, rfl, rdOf_mem _ l v p1 (p2 (by omega)), p4, p5⟩
/-- A list that is right, as the reference asks. -/
theorem settings_spec_true (l : List S38) (hl : Small l) (h40 : l.length ≤ 40) (hw : ∀ x ∈ l, Hand.wordB x.f0 = true ∧ Hand.valueB x.f1 = true) (hr : ∀ j : Nat, j < l.length → 0 < j → Op.bytesLess (rd_T38 l ((j : Int) - 1)).f0.toList (rd_T38 l (j : Int)).f0.toList = true) :
    ∀ (d i : Nat), l.length - i ≤ d → i ≤ l.length → Ev (fun k => spec_SettingsOk.l0 k l (i : Int)) true := by
  have hn := hl.1
  have last : ∀ i : Nat, i = l.length → Ev (fun k => spec_SettingsOk.l0 k l (i : Int)) true := by
    intro i hi
    refine ev_unroll ?_
    simp only [spec_SettingsOk.l0, if_neg (show ¬ (i : Int) < (l.length : Int) by omega)]
    exact ev_eq (Ev.now _) (decide_eq_true (by omega))
  intro d
  induction d with
  | zero => exact fun i hd hi => last i (by omega)
  | succ d ih =>
    intro i hd hi
    by_cases hlt : i < l.length
    · obtain ⟨s0, s1⟩ := hl.2 _ (rd38_mem l i hlt)
      obtain ⟨hW, hV⟩ := hw _ (rd38_mem l i hlt)
      have hri := hr i hlt
      have hw1 := Aside0.mk (show wrap64 ((i : Int) + 1) = ((i + 1 : Nat) : Int) from (w64 (by omega) (by omega)).trans (by omega))
      have hw2 := Aside0.mk (show wrap64 ((i : Int) - 1) = (i : Int) - 1 from w64 (by omega) (by omega))
      have p := ih (i + 1) (by omega) (by omega)
      have hi1 : (i : Int) < (l.length : Int) := by omega
      have hi0 : (0 : Int) ≤ (i : Int) := by omega
      have w1 := word_ev (rd_T38 l (i : Int)).f0 (by omega)
      have v1 := value_ev (rd_T38 l (i : Int)).f1 (by omega)
      rw [hW] at w1
      rw [hV] at v1
      refine ev_unroll ?_
      simp only [spec_SettingsOk.l0, if_pos hi1, if_pos hi0]
      refine Ev.bind w1 ?_
      simp only [if_true]
      refine Ev.bind v1 ?_
      by_cases hz : (i : Int) > 0
      · have hj : (0 : Int) ≤ (i : Int) - 1 := by omega
        have hj2 : (i : Int) - 1 < (l.length : Int) := by omega
        simp only [if_true, if_pos hz, hw2.out, if_pos hj, if_pos hj2, if_pos (hri (by omega)), hw1.out]
        exact p
      · simp only [if_true, if_neg hz, hw1.out]
        exact p
    · exact last i (by omega)
theorem rise_less {l : List S38} (h : Hand.Rise l) (j : Nat) (hj : j < l.length) (h0 : 0 < j) : Op.bytesLess (rd_T38 l ((j : Int) - 1)).f0.toList (rd_T38 l (j : Int)).f0.toList = true := by
  have e1 : rd_T38 l (j : Int) = l[j] := rd38_get l j hj
  have e2 : rd_T38 l ((j : Int) - 1) = l[j - 1] := by
    rw [show (j : Int) - 1 = ((j - 1 : Nat) : Int) by omega]
    exact rd38_get l (j - 1) (by omega)
  rw [e1, e2, bytesLess_eq, decide_eq_true_eq, Lib.toList_data, Lib.toList_data]
  exact List.pairwise_iff_getElem.mp h (j - 1) j (by omega) hj (by omega)
theorem settings_true (l : List S38) (hl : Small l) (h40 : l.length ≤ 40) (hw : ∀ x ∈ l, Hand.wordB x.f0 = true ∧ Hand.valueB x.f1 = true) (hr : Hand.Rise l) :
    Ev (fun k => spec_SettingsOk.f k l) true ∧ Ev (fun k => impl_SettingsOk.f k l) true := by
  obtain ⟨b, p, q⟩ := settings_both l hl
  have h := settings_spec_true l hl h40 hw (fun j hj h0 => rise_less hr j hj h0) l.length 0 (by omega) (by omega)
  have e := ev_unique p h
  subst e
  exact ⟨p, q⟩
theorem delS_here {s : S38} {r : List S38} {n : ByteArray} (h : s.f0 = n) : Hand.delS (s :: r) n = Hand.delS r n := by simp [Hand.delS, h]
theorem delS_past {s : S38} {r : List S38} {n : ByteArray} (h : ¬ s.f0 = n) : Hand.delS (s :: r) n = s :: Hand.delS r n := by simp [Hand.delS, h]
theorem set_rest (L : List S38) (hl : L.length ≤ 1048576) (n v : ByteArray) : ∀ (d i : Nat) (out : List S38), L.length - i ≤ d → i ≤ L.length → out.length + (L.length - i) ≤ 2097153 →
    Ev (fun k => spec_l19Set.l0 k L out true (i : Int) n v) (out ++ Hand.delS (L.drop i) n) := by
  have last : ∀ (i : Nat) (out : List S38), i = L.length → Ev (fun k => spec_l19Set.l0 k L out true (i : Int) n v) (out ++ Hand.delS (L.drop i) n) := by
    intro i out hi
    refine ev_unroll ?_
    simp only [spec_l19Set.l0, if_neg (show ¬ (i : Int) < (L.length : Int) by omega), if_true]
    refine ev_eq (Ev.now _) ?_
    rw [hi, List.drop_length]
    simp [Hand.delS]
  intro d
  induction d with
  | zero => exact fun i out hd hi _ => last i out (by omega)
  | succ d ih =>
    intro i out hd hi ho
    by_cases hlt : i < L.length
    · have e1 : rd_T38 L (i : Int) = L[i] := rd38_get L i hlt
      have hw := Aside0.mk (show wrap64 ((i : Int) + 1) = ((i + 1 : Nat) : Int) from (w64 (by omega) (by omega)).trans (by omega))
      refine ev_unroll ?_
      simp only [spec_l19Set.l0, if_pos (show (i : Int) < (L.length : Int) by omega), if_true]
      refine ev_unroll ?_
      simp only [spec_l19Set.j1, Bool.false_eq_true, if_false, if_pos (show (0 : Int) ≤ (i : Int) by omega), if_pos (show (i : Int) < (L.length : Int) by omega), e1, tl_eq, hw.out]
      have ed : L.drop i = L[i] :: L.drop (i + 1) := List.drop_eq_getElem_cons hlt
      by_cases c : L[i].f0 = n
      · simp only [if_pos c]
        refine ev_eq (ih (i + 1) out (by omega) (by omega) (by omega)) ?_
        rw [ed, delS_here c]
      · simp only [if_neg c, if_pos (show out.length < 4398046511104 by omega)]
        refine ev_eq (ih (i + 1) (out ++ [L[i]]) (by omega) (by omega) (by rw [List.length_append, List.length_singleton]; omega)) ?_
        rw [ed, delS_past c, List.append_assoc]
        rfl
    · exact last i out (by omega)
theorem set_from (L : List S38) (hl : L.length ≤ 1048576) (hr : Hand.Rise L) (x : S38) : ∀ (d i : Nat) (out : List S38), L.length - i ≤ d → i ≤ L.length → out.length + (L.length - i) ≤ 1048577 →
    Ev (fun k => spec_l19Set.l0 k L out false (i : Int) x.f0 x.f1) (out ++ Hand.setS (L.drop i) x) := by
  have last : ∀ (i : Nat) (out : List S38), i = L.length → out.length ≤ 1048577 → Ev (fun k => spec_l19Set.l0 k L out false (i : Int) x.f0 x.f1) (out ++ Hand.setS (L.drop i) x) := by
    intro i out hi ho
    refine ev_unroll ?_
    simp only [spec_l19Set.l0, if_neg (show ¬ (i : Int) < (L.length : Int) by omega), Bool.false_eq_true, if_false, if_pos (show out.length < 4398046511104 by omega)]
    refine ev_eq (Ev.now _) ?_
    rw [hi, List.drop_length]
    rfl
  intro d
  induction d with
  | zero => exact fun i out hd hi ho => last i out (by omega) (by omega)
  | succ d ih =>
    intro i out hd hi ho
    by_cases hlt : i < L.length
    · have e1 : rd_T38 L (i : Int) = L[i] := rd38_get L i hlt
      have hw := Aside0.mk (show wrap64 ((i : Int) + 1) = ((i + 1 : Nat) : Int) from (w64 (by omega) (by omega)).trans (by omega))
      have ed : L.drop i = L[i] :: L.drop (i + 1) := List.drop_eq_getElem_cons hlt
      have hri : ∀ s ∈ L.drop (i + 1), Hand.keyL L[i] < Hand.keyL s := by
        have h2 : Hand.Rise (L.drop i) := List.Pairwise.sublist (List.drop_sublist _ _) hr
        rw [ed] at h2
        exact (List.pairwise_cons.mp h2).1
      refine ev_unroll ?_
      simp only [spec_l19Set.l0, if_pos (show (i : Int) < (L.length : Int) by omega), Bool.false_eq_true, if_false, if_pos (show (0 : Int) ≤ (i : Int) by omega), e1, less_eq]
      by_cases c : L[i].f0.data.toList < x.f0.data.toList
      · simp only [decide_eq_true c, Bool.not_true]
        refine ev_unroll ?_
        have hne : ¬ L[i].f0 = x.f0 := fun e => by rw [e] at c; exact List.lt_irrefl _ c
        simp only [spec_l19Set.j1, Bool.false_eq_true, if_false, if_pos (show (0 : Int) ≤ (i : Int) by omega), if_pos (show (i : Int) < (L.length : Int) by omega), e1, tl_eq, hw.out, if_neg hne, if_pos (show out.length < 4398046511104 by omega)]
        refine ev_eq (ih (i + 1) (out ++ [L[i]]) (by omega) (by omega) (by rw [List.length_append, List.length_singleton]; omega)) ?_
        have e3 : Hand.setS (L[i] :: L.drop (i + 1)) x = L[i] :: Hand.setS (L.drop (i + 1)) x := by
          unfold Hand.setS
          have e4 : Hand.delS (L[i] :: L.drop (i + 1)) x.f0 = L[i] :: Hand.delS (L.drop (i + 1)) x.f0 := delS_past hne
          rw [e4]
          conv => lhs; unfold Hand.insA
          rw [if_neg (fun hb => List.lt_asymm c (Hand.before_lt hb))]
        rw [ed, e3, List.append_assoc]
        rfl
      · simp only [decide_eq_false c, Bool.not_false]
        refine ev_unroll ?_
        simp only [spec_l19Set.j1, if_true, if_pos (show out.length < 4398046511104 by omega), Option.bind_some, if_pos (show (0 : Int) ≤ (i : Int) by omega), if_pos (show (i : Int) < (L.length : Int) by omega), e1, tl_eq, hw.out]
        have hgt : ∀ s ∈ Hand.delS (L[i] :: L.drop (i + 1)) x.f0, Hand.keyL x < Hand.keyL s := by
          intro s hs
          obtain ⟨h1, h2⟩ := List.mem_filter.mp hs
          have hne : s.f0 ≠ x.f0 := by simpa using h2
          have hle : Hand.keyL x ≤ Hand.keyL L[i] := List.not_lt.mp c
          have hne2 : Hand.keyL x ≠ Hand.keyL s := fun e => hne (Hand.bytes_inj e.symm)
          rcases List.mem_cons.mp h1 with rfl | h1
          · exact Hand.lt_tri _ _ c (fun e => hne2 e.symm)
          · exact List.lt_of_le_of_lt hle (hri s h1)
        have e3 : Hand.setS (L[i] :: L.drop (i + 1)) x = x :: Hand.delS (L[i] :: L.drop (i + 1)) x.f0 := Hand.insA_mid x _ hgt [] (fun s hs => by cases hs)
        by_cases c2 : L[i].f0 = x.f0
        · simp only [if_pos c2]
          refine ev_eq (set_rest L hl x.f0 x.f1 L.length (i + 1) (out ++ [x]) (by omega) (by omega) (by rw [List.length_append, List.length_singleton]; omega)) ?_
          rw [ed, e3, delS_here c2, List.append_assoc]
          rfl
        · simp only [if_neg c2, if_pos (show (out ++ [x]).length < 4398046511104 by rw [List.length_append, List.length_singleton]; omega)]
          refine ev_eq (set_rest L hl x.f0 x.f1 L.length (i + 1) (out ++ [x] ++ [L[i]]) (by omega) (by omega) (by rw [List.length_append, List.length_append, List.length_singleton, List.length_singleton]; omega)) ?_
          rw [ed, e3, delS_past c2, List.append_assoc, List.append_assoc]
          rfl
    · exact last i out (by omega) (by omega)
theorem set_ev (L : List S38) (hl : L.length ≤ 1048576) (hr : Hand.Rise L) (x : S38) : Ev (fun k => spec_l19Set.f k L x.f0 x.f1) (Hand.setS L x) := by
  have := set_from L hl hr x L.length 0 [] (by omega) (by omega) (by simp; omega)
  rw [List.nil_append, List.drop_zero] at this
  exact this
theorem asc_of_rise {L : List S38} (h : Hand.Rise L) : Hand.Asc L := h.imp fun h => Hand.lt_before h
theorem rise_of_asc {L : List S38} (h : Hand.Asc L) : Hand.Rise L := h.imp fun h => Hand.before_lt h
def nms : List ByteArray := [(⟨#[97]⟩ : ByteArray), (⟨#[122, 111, 110, 101]⟩ : ByteArray), (⟨#[208, 150, 117, 107]⟩ : ByteArray), (⟨#[206, 177]⟩ : ByteArray), (⟨#[195, 188, 98, 101, 114]⟩ : ByteArray), (⟨#[98, 46, 49]⟩ : ByteArray), (⟨#[120, 95, 121]⟩ : ByteArray), (⟨#[108, 105, 110, 101, 45, 55]⟩ : ByteArray)]
def vls : List ByteArray := [(⟨#[111, 110]⟩ : ByteArray), (⟨#[111, 102, 102]⟩ : ByteArray), (⟨#[55]⟩ : ByteArray), (⟨#[49, 50, 51]⟩ : ByteArray), (⟨#[207, 137]⟩ : ByteArray), (⟨#[48, 48, 48]⟩ : ByteArray)]
theorem nms_eq : spec_l19Names.f = some nms := rfl
theorem vls_eq : spec_l19Values.f = some vls := rfl
/-- A list of settings as one is drawn. -/
structure Dr (L : List S38) : Prop where
  rise : Hand.Rise L
  mem : ∀ x ∈ L, x.f0 ∈ nms ∧ x.f1 ∈ vls
theorem Dr.set {L : List S38} (h : Dr L) {n v : ByteArray} (hn : n ∈ nms) (hv : v ∈ vls) : Dr (Hand.setS L ⟨n, v⟩) := by
  refine ⟨rise_of_asc ((asc_of_rise h.rise).set _), fun x hx => ?_⟩
  rcases Hand.insA_mem _ x _ hx with rfl | hx
  · exact ⟨hn, hv⟩
  · exact h.mem x (List.mem_filter.mp hx).1
theorem draw_from (b : List Int) (hb : b.length ≤ 1048576) : ∀ (d : Nat) (x4 : Int) (L : List S38) (i h : Int), x4 ≤ d → Dr L → L.length + d ≤ 6 → 0 ≤ i → i ≤ 1048576 →
    ∃ L' i' h', Ev (fun k => spec_l19Draw.l0 k L x4 b i h) (L', i', h') ∧ Dr L' ∧ L'.length ≤ 6 ∧ 0 ≤ i' ∧ i' ≤ 1048576 := by
  have last : ∀ (x4 : Int) (L : List S38) (i h : Int), ¬ x4 > 0 → Dr L → L.length ≤ 6 → 0 ≤ i → i ≤ 1048576 → ∃ L' i' h', Ev (fun k => spec_l19Draw.l0 k L x4 b i h) (L', i', h') ∧ Dr L' ∧ L'.length ≤ 6 ∧ 0 ≤ i' ∧ i' ≤ 1048576 := by
    intro x4 L i h hx hL hl i0 i1
    refine ⟨L, i, h, ev_unroll ?_, hL, hl, i0, i1⟩
    simp only [spec_l19Draw.l0, if_neg hx]
    exact Ev.now _
  intro d
  induction d with
  | zero => exact fun x4 L i h hx hL hl i0 i1 => last x4 L i h (by omega) hL (by omega) i0 i1
  | succ d ih =>
    intro x4 L i h hx hL hl i0 i1
    by_cases hp : x4 > 0
    · obtain ⟨n, i1', h1, e1, p1, q1, r1⟩ := l1Pick_some b i h nms (by decide) hb i0 i1
      obtain ⟨v, i2', h2, e2, p2, q2, r2⟩ := l1Pick_some b i1' h1 vls (by decide) hb q1 r1
      have hw := Aside0.mk (show wrap64 (x4 - 1) = x4 - 1 from w64 (by omega) (by omega))
      obtain ⟨L', i', h', e3, p3, p4, p5, p6⟩ := ih (x4 - 1) (Hand.setS L ⟨n, v⟩) i2' h2 (by omega) (hL.set p1 p2) (by have := Hand.setS_len L ⟨n, v⟩; omega) q2 r2
      refine ⟨L', i', h', ev_unroll ?_, p3, p4, p5, p6⟩
      simp only [spec_l19Draw.l0, if_pos hp, nms_eq, vls_eq, Option.bind_some, e1, e2, hw.out]
      exact Ev.bind (set_ev L (by omega) hL.rise ⟨n, v⟩) e3
    · exact last x4 L i h hp hL (by omega) i0 i1
theorem draw_ev (b : List Int) (hb : b.length ≤ 1048576) (i h : Int) (i0 : 0 ≤ i) (i1 : i ≤ 1048576) :
    ∃ L' i' h', Ev (fun k => spec_l19Draw.f k b i h) (L', i', h') ∧ Dr L' ∧ L'.length ≤ 6 ∧ 0 ≤ i' ∧ i' ≤ 1048576 := by
  obtain ⟨v, i1', h1, e1, p1, p2, p3, p4, p5⟩ := l1Below_some b i h 7 hb i0 i1
  obtain ⟨L', i', h', e3, q⟩ := draw_from b hb 6 v [] i1' h1 (by have := p2 (by decide); omega) ⟨List.Pairwise.nil, fun x hx => by cases hx⟩ (by simp) p4 p5
  refine ⟨L', i', h', ?_, q⟩
  simp only [spec_l19Draw.f, e1, Option.bind_some]
  exact e3
/-- What SettingsOk's yes tells of each setting. -/
theorem ok_from (l : List S38) (hl : Small l) : ∀ (k i : Nat), i ≤ l.length → spec_SettingsOk.l0 k l (i : Int) = some true → l.length ≤ 40 ∧ ∀ j, i ≤ j → j < l.length → Hand.wordB (rd_T38 l (j : Int)).f0 = true ∧ Hand.valueB (rd_T38 l (j : Int)).f1 = true := by
  have hn := hl.1
  intro k
  induction k with
  | zero => intro i _ h; simp [spec_SettingsOk.l0] at h
  | succ k ih =>
    intro i hi h
    by_cases hlt : i < l.length
    · obtain ⟨s0, s1⟩ := hl.2 _ (rd38_mem l i hlt)
      have hw := Aside0.mk (show wrap64 ((i : Int) + 1) = ((i + 1 : Nat) : Int) from (w64 (by omega) (by omega)).trans (by omega))
      have hw2 := Aside0.mk (show wrap64 ((i : Int) - 1) = (i : Int) - 1 from w64 (by omega) (by omega))
      simp only [spec_SettingsOk.l0, if_pos (show (i : Int) < (l.length : Int) by omega), if_pos (show (0 : Int) ≤ (i : Int) by omega), hw.out, hw2.out] at h
      obtain ⟨t, ht, h⟩ := Option.bind_eq_some_iff.mp h
      cases t
      · simp at h
      simp only [if_true] at h
      obtain ⟨t, hv, h⟩ := Option.bind_eq_some_iff.mp h
      cases t
      · simp at h
      simp only [if_true] at h
      have q : Hand.wordB (rd_T38 l (i : Int)).f0 = true ∧ Hand.valueB (rd_T38 l (i : Int)).f1 = true :=
        ⟨ev_unique (word_ev _ (by omega)) (Ev.of (fun k => spec_WordOk.mono _ k) ht), ev_unique (value_ev _ (by omega)) (Ev.of (fun k => spec_l19Value.mono _ k) hv)⟩
      have next : spec_SettingsOk.l0 k l ((i + 1 : Nat) : Int) = some true := by
        by_cases hz : (i : Int) > 0
        · simp only [if_pos hz, if_pos (show (0 : Int) ≤ (i : Int) - 1 by omega), if_pos (show (i : Int) - 1 < (l.length : Int) by omega)] at h
          by_cases hc : Op.bytesLess (rd_T38 l ((i : Int) - 1)).f0.toList (rd_T38 l (i : Int)).f0.toList = true
          · rw [if_pos hc] at h; exact h
          · rw [if_neg hc] at h; simp at h
        · rw [if_neg hz] at h; exact h
      obtain ⟨p1, p2⟩ := ih (i + 1) (by omega) next
      refine ⟨p1, fun j h1 h2 => ?_⟩
      by_cases e : j = i
      · subst e; exact q
      · exact p2 j (by omega) h2
    · simp only [spec_SettingsOk.l0, if_neg (show ¬ (i : Int) < (l.length : Int) by omega), Option.some.injEq, decide_eq_true_eq] at h
      exact ⟨by omega, fun j h1 h2 => by omega⟩
structure Okay (l : List S38) : Prop where
  rise : Hand.Rise l
  len : l.length ≤ 40
  wv : ∀ x ∈ l, Hand.wordB x.f0 = true ∧ Hand.valueB x.f1 = true
theorem okay_of (l : List S38) (hl : Small l) (h : Ev (fun k => spec_SettingsOk.f k l) true) : Okay l := by
  obtain ⟨K, hK⟩ := h
  obtain ⟨p1, p2⟩ := ok_from l hl K 0 (by omega) (hK K (Nat.le_refl _))
  refine ⟨List.pairwise_map.mp (N_rise l hl.1 ⟨K, hK⟩), p1, fun x hx => ?_⟩
  obtain ⟨j, hj, rfl⟩ := List.mem_iff_getElem.mp hx
  have := p2 j (by omega) hj
  rw [rd38_get l j hj] at this
  exact this
/-- The contract's condition holds of what is small. -/
theorem conf_ok (l : List S38) (t : ByteArray) (hl : Small l) (ht : t.size ≤ 2097152) : Hand.ConfOk l t := by
  refine ⟨hl, ht, fun ⟨k, hk⟩ => ?_⟩
  obtain ⟨b, p, q⟩ := settings_both l hl
  have e : b = true := ev_unique q (Ev.of (fun k => impl_SettingsOk.mono _ k) hk)
  subst e
  have h := okay_of l hl p
  exact ⟨asc_of_rise h.rise, h.len⟩
/-- What Configure's contract says of settings that are right. -/
theorem conf_eval (l : List S38) (t : ByteArray) (hl : Small l) (ht : t.size ≤ 3000) (h : Ev (fun k => impl_SettingsOk.f k l) true) : impl_Configure.f l t = some ((Hand.confO l t).1, ((Hand.confO l t).2 : Int)) := by
  unfold impl_Configure.f
  rw [if_pos (conf_ok l t hl (by omega)), if_pos (Ev.rounds h), if_pos ht]
theorem confO_of {l L : List S38} {t : ByteArray} (h : Hand.confI Hand.wordB Hand.valueB (t.size + 1) l [] t 1 = (some L, 0)) : Hand.confO l t = (L, 0) := by
  unfold Hand.confO
  rw [h]
theorem find_eval (l : List S38) (n : ByteArray) (hl : Small l) (hn : n.size ≤ 1048576) (h : Ev (fun k => impl_SettingsOk.f k l) true) : impl_Find19.f l n = some (Hand.look l n) := by
  unfold impl_Find19.f
  rw [if_pos ⟨hl.1, fun x hx => by have := hl.2 x hx; unfold maxLen; omega, by unfold maxLen; omega⟩, if_pos (Ev.rounds h)]
theorem same_from (l : List S38) (hl : l.length ≤ 1048576) : ∀ (d i : Nat), l.length - i ≤ d → i ≤ l.length → Ev (fun k => laws_sameSettings.l0 k l l (i : Int)) true := by
  have last : ∀ i : Nat, i = l.length → Ev (fun k => laws_sameSettings.l0 k l l (i : Int)) true := by
    intro i hi
    refine ev_unroll ?_
    simp only [laws_sameSettings.l0, if_neg (show ¬ (i : Int) < (l.length : Int) by omega)]
    exact Ev.now _
  intro d
  induction d with
  | zero => exact fun i hd hi => last i (by omega)
  | succ d ih =>
    intro i hd hi
    by_cases hlt : i < l.length
    · have hw := Aside0.mk (show wrap64 ((i : Int) + 1) = ((i + 1 : Nat) : Int) from (w64 (by omega) (by omega)).trans (by omega))
      refine ev_unroll ?_
      simp only [laws_sameSettings.l0, if_pos (show (i : Int) < (l.length : Int) by omega), if_pos (show (0 : Int) ≤ (i : Int) by omega), beq_self_eq_true, Bool.not_true, Bool.or_self, Bool.false_eq_true, if_false, hw.out]
      exact ih (i + 1) (by omega) (by omega)
    · exact last i (by omega)
theorem same_ev (l : List S38) (hl : l.length ≤ 1048576) : Ev (fun k => laws_sameSettings.f k l l) true := by
  unfold laws_sameSettings.f
  simp only [if_true]
  exact same_from l hl l.length 0 (by omega) (by omega)
theorem draw_two (l0 : List Int) (hb : l0.length ≤ 1048576) : ∃ a b, Ev (fun k => spec_DrawTwoSettings.f k l0) (a, b) ∧ Dr a ∧ a.length ≤ 6 ∧ Dr b ∧ b.length ≤ 6 := by
  obtain ⟨h, e0⟩ := l1New_ev l0
  obtain ⟨a, i1, h1, e1, p1, p2, p3, p4⟩ := draw_ev l0 hb 0 h (by omega) (by omega)
  obtain ⟨b, i2, h2, e2, q1, q2, q3, q4⟩ := draw_ev l0 hb i1 h1 p3 p4
  refine ⟨a, b, ?_, p1, p2, q1, q2⟩
  simp only [spec_DrawTwoSettings.f]
  exact Ev.bind e0 (Ev.bind e1 (Ev.bind e2 (Ev.now _)))
instance (l : List UInt8) : Decidable (Hand.Clean l) := by unfold Hand.Clean; exact inferInstance
theorem nms_all : ∀ n ∈ nms, Hand.wordB n = true ∧ Hand.Clean n.data.toList ∧ n.size ≤ 6 := by decide +kernel
theorem vls_all : ∀ v ∈ vls, Hand.valueB v = true ∧ Hand.Clean v.data.toList ∧ v.size ≤ 3 := by decide +kernel
theorem Dr.small {L : List S38} (h : Dr L) (hl : L.length ≤ 6) : Small L :=
  ⟨by omega, fun x hx => ⟨by have := (nms_all _ (h.mem x hx).1).2.2; omega, by have := (vls_all _ (h.mem x hx).2).2.2; omega⟩⟩
theorem Dr.ok {L : List S38} (h : Dr L) (hl : L.length ≤ 6) : Ev (fun k => spec_SettingsOk.f k L) true ∧ Ev (fun k => impl_SettingsOk.f k L) true :=
  settings_true L (h.small hl) (by omega) (fun x hx => ⟨(nms_all _ (h.mem x hx).1).1, (vls_all _ (h.mem x hx).2).1⟩) h.rise
theorem look_get (L : List S38) (hr : Hand.Rise L) (n : ByteArray) : Hand.look L n = Hand.getS L n := by
  cases h : L.find? (fun s => decide (s.f0 = n)) with
  | none =>
    rw [look_none L n (fun x hx => by simpa using List.find?_eq_none.mp h x hx)]
    unfold Hand.getS
    rw [h]
  | some s =>
    have h1 : s.f0 = n := by simpa using List.find?_some h
    obtain ⟨i, hi, rfl⟩ := List.mem_iff_getElem.mp (List.mem_of_find?_eq_some h)
    have hN := List.pairwise_map.mpr hr
    have := look_in L hN i hi
    rw [rd38_get L i hi, h1] at this
    rw [this]
    unfold Hand.getS
    rw [h]
theorem line_cmd (a b : List S38) (ra : Hand.Rise a) (rb : Hand.Rise b) (n : List UInt8) : Hand.lineS a b n = Hand.cmdL a b n := by
  unfold Hand.lineS Hand.cmdL
  rw [look_get a ra, look_get b rb]
  rfl
theorem two_of {a b : List S38} (ha : Dr a) (hb : Dr b) (la : a.length ≤ 6) (lb : b.length ≤ 6) : Hand.Two Hand.wordB Hand.valueB a b (Hand.names a b) := by
  have hlen : (Hand.names a b).length ≤ 12 := by
    have := Hand.setN_length (a.map (fun s => s.f0.data.toList) ++ b.map (fun s => s.f0.data.toList))
    unfold Hand.names
    rw [List.length_append, List.length_map, List.length_map] at this
    omega
  refine ⟨Hand.setN_lt _, by omega, fun s hs => ⟨(nms_all _ (hb.mem s hs).1).1, (vls_all _ (hb.mem s hs).2).1, (nms_all _ (hb.mem s hs).1).2.1, (vls_all _ (hb.mem s hs).2).2.1⟩, fun s hs => (nms_all _ (ha.mem s hs).1).2.1, fun n hn => ?_, ha.rise, hb.rise, fun s hs => ?_, fun s hs => ?_⟩
  · have := (Hand.mem_names a b n).mp hn
    rw [look_get a ha.rise, look_get b hb.rise] at this
    exact this
  · unfold Hand.names
    rw [Hand.mem_setN, List.mem_append]
    exact .inl (List.mem_map.mpr ⟨s, hs, rfl⟩)
  · unfold Hand.names
    rw [Hand.mem_setN, List.mem_append]
    exact .inr (List.mem_map.mpr ⟨s, hs, rfl⟩)
theorem cmd_size {a b : List S38} (ha : Dr a) (hb : Dr b) (la : a.length ≤ 6) (lb : b.length ≤ 6) : ∀ n ∈ Hand.names a b, (Hand.cmdL a b n).length ≤ 15 := by
  intro n hn
  have hnn : n.length ≤ 6 := by
    unfold Hand.names at hn
    rw [Hand.mem_setN, List.mem_append] at hn
    rcases hn with hn | hn
    · obtain ⟨s, hs, rfl⟩ := List.mem_map.mp hn
      have := (nms_all _ (ha.mem s hs).1).2.2
      rw [Lib.size_eq] at this
      exact this
    · obtain ⟨s, hs, rfl⟩ := List.mem_map.mp hn
      have := (nms_all _ (hb.mem s hs).1).2.2
      rw [Lib.size_eq] at this
      exact this
  unfold Hand.cmdL
  by_cases h1 : (Hand.getS b ⟨n.toArray⟩).2 = true
  · rw [if_pos h1]
    split
    · exact Nat.zero_le _
    · have hv : (Hand.getS b ⟨n.toArray⟩).1.data.toList.length ≤ 3 := by
        unfold Hand.getS at h1 ⊢
        cases h : b.find? (fun s => decide (s.f0 = ⟨n.toArray⟩)) with
        | none => rw [h] at h1; simp at h1
        | some s =>
          have := (vls_all _ (hb.mem s (List.mem_of_find?_eq_some h)).2).2.2
          rw [Lib.size_eq] at this
          exact this
      unfold Hand.setL
      simp only [List.length_append, List.length_cons, List.length_nil]
      omega
  · rw [if_neg h1]
    unfold Hand.unsetL
    simp only [List.length_append, List.length_cons, List.length_nil]
    omega
theorem flat_size (f : List UInt8 → List UInt8) : ∀ R : List (List UInt8), (∀ n ∈ R, (f n).length ≤ 15) → (R.flatMap f).length ≤ 15 * R.length
  | [], _ => Nat.zero_le _
  | n :: R, h => by
    have h1 := h n (by simp)
    have h2 := flat_size f R (fun m hm => h m (List.mem_cons_of_mem _ hm))
    rw [List.flatMap_cons, List.length_append, List.length_cons]
    omega
theorem FnDiffed : laws_FnDiffed.Pure := by
  intro l0 _ _ _
  refine Ev.rounds (g := fun k => laws_FnDiffed.f k l0) ?_
  simp only [laws_FnDiffed.f, laws_big.f, Option.bind_some]
  by_cases hb : (l0.length : Int) > 1048576
  · simp only [decide_eq_true hb, if_true]
    exact Ev.now _
  simp only [decide_eq_false hb, Bool.false_eq_true, if_false]
  obtain ⟨a, b, e0, da, la, db, lb⟩ := draw_two l0 (by omega)
  have sa := da.small la
  have sb := db.small lb
  obtain ⟨oa1, oa2⟩ := da.ok la
  obtain ⟨ob1, ob2⟩ := db.ok lb
  have h2 := two_of da db la lb
  refine Ev.bind e0 ?_
  have hok : Hand.DiffOk a b := ⟨sa, sb⟩
  have dI : Ev (fun k => impl_Diff19.f k a b) (Hand.diffS a b) := by
    simp only [impl_Diff19.f, if_pos hok]
    refine Ev.bind oa2 ?_
    simp only [if_true]
    refine Ev.bind ob2 ?_
    simp only [if_true]
    exact Ev.now _
  have dS : Ev (fun k => spec_Diff19.f k a b) (Hand.diffS a b) := by
    obtain ⟨r, p, q⟩ := diff_both a b sa sb
    have := ev_unique q dI
    subst this
    exact p
  refine Ev.bind dI (Ev.bind dS ?_)
  have eT : (Hand.names a b).flatMap (Hand.lineS a b) = Hand.diffL a b (Hand.names a b) := by
    unfold Hand.diffL
    have : Hand.lineS a b = Hand.cmdL a b := funext fun n => line_cmd a b da.rise db.rise n
    rw [this]
  have eD : Hand.diffS a b = ⟨(Hand.diffL a b (Hand.names a b)).toArray⟩ := by
    unfold Hand.diffS
    rw [eT]
  have hsz : (Hand.diffL a b (Hand.names a b)).length ≤ 200 := by
    have h1 := flat_size (Hand.cmdL a b) (Hand.names a b) (cmd_size da db la lb)
    have h3 := Hand.setN_length (a.map (fun s => s.f0.data.toList) ++ b.map (fun s => s.f0.data.toList))
    rw [List.length_append, List.length_map, List.length_map] at h3
    have h4 : (Hand.names a b).length ≤ 12 := by unfold Hand.names; omega
    unfold Hand.diffL
    omega
  rw [eD]
  generalize hX : Hand.diffL a b (Hand.names a b) = X at *
  have hszX : (⟨X.toArray⟩ : ByteArray).size = X.length := by rw [Lib.size_eq]
  simp only [if_true, hszX, decide_eq_false (show ¬ (X.length : Int) > 2980 by omega)]
  refine ev_unroll ?_
  have c1 : Hand.confO a ⟨X.toArray⟩ = (b, 0) := confO_of (by rw [hszX, ← hX]; exact Hand.run_plain h2 _ (by omega))
  have t2 : ((⟨#[98, 101, 103, 105, 110, 10]⟩ : ByteArray) ++ ⟨X.toArray⟩) ++ (⟨#[99, 111, 109, 109, 105, 116, 10]⟩ : ByteArray) = ⟨([98, 101, 103, 105, 110, 10] ++ X ++ [99, 111, 109, 109, 105, 116, 10]).toArray⟩ := Hand.bytes_ext (by simp [Hand.toList_app])
  have t3 : ((⟨#[98, 101, 103, 105, 110, 10]⟩ : ByteArray) ++ ⟨X.toArray⟩) ++ (⟨#[97, 98, 111, 114, 116, 10]⟩ : ByteArray) = ⟨([98, 101, 103, 105, 110, 10] ++ X ++ [97, 98, 111, 114, 116, 10]).toArray⟩ := Hand.bytes_ext (by simp [Hand.toList_app])
  have z2 : (⟨([98, 101, 103, 105, 110, 10] ++ X ++ [99, 111, 109, 109, 105, 116, 10]).toArray⟩ : ByteArray).size = X.length + 13 := by rw [Lib.size_eq]; simp
  have z3 : (⟨([98, 101, 103, 105, 110, 10] ++ X ++ [97, 98, 111, 114, 116, 10]).toArray⟩ : ByteArray).size = X.length + 12 := by rw [Lib.size_eq]; simp
  have z1 : ((⟨#[98, 101, 103, 105, 110, 10]⟩ : ByteArray) ++ ⟨X.toArray⟩).size = 6 + X.length := by rw [ByteArray.size_append, hszX]; rfl
  have c2 : Hand.confO a ⟨([98, 101, 103, 105, 110, 10] ++ X ++ [99, 111, 109, 109, 105, 116, 10]).toArray⟩ = (b, 0) := confO_of (by rw [z2, ← hX]; exact Hand.run_commit h2 _ (by omega))
  have c3 : Hand.confO a ⟨([98, 101, 103, 105, 110, 10] ++ X ++ [97, 98, 111, 114, 116, 10]).toArray⟩ = (a, 0) := confO_of (by rw [z3, ← hX]; exact Hand.run_abort h2 _ (by omega))
  have f1 := conf_eval a ⟨X.toArray⟩ sa (by omega) oa2
  have f2 := conf_eval a _ sa (by rw [z2]; omega) oa2
  have f3 := conf_eval a _ sa (by rw [z3]; omega) oa2
  rw [c1] at f1
  rw [c2] at f2
  rw [c3] at f3
  simp only [laws_FnDiffed.j0, Bool.false_eq_true, if_false, f1, Option.bind_some, hszX, z1, t2, t3, f2, f3, if_pos (show 6 + X.length ≤ 9223372036854775807 by omega), if_pos (show 6 + X.length + 7 ≤ 9223372036854775807 by omega), if_pos (show 6 + X.length + 6 ≤ 9223372036854775807 by omega)]
  have loop : ∀ (d i : Nat), b.length - i ≤ d → i ≤ b.length → Ev (fun k => laws_FnDiffed.l0 k a b b 0 b 0 a 0 (i : Int)) true := by
    have last : ∀ i : Nat, i = b.length → Ev (fun k => laws_FnDiffed.l0 k a b b 0 b 0 a 0 (i : Int)) true := by
      intro i hi
      refine ev_unroll ?_
      simp only [laws_FnDiffed.l0, if_neg (show ¬ (i : Int) < (b.length : Int) by omega), if_true]
      refine Ev.bind (same_ev b (by omega)) ?_
      simp only [if_true]
      refine Ev.bind (same_ev b (by omega)) ?_
      simp only [if_true]
      exact Ev.bind (same_ev a (by omega)) (Ev.now _)
    intro d
    induction d with
    | zero => exact fun i hd hi => last i (by omega)
    | succ d ih =>
      intro i hd hi
      by_cases hlt : i < b.length
      · have hw := Aside0.mk (show wrap64 ((i : Int) + 1) = ((i + 1 : Nat) : Int) from (w64 (by omega) (by omega)).trans (by omega))
        have hm := rd38_mem b i hlt
        have fe := find_eval b (rd_T38 b (i : Int)).f0 sb (sb.2 _ hm).1 ob2
        rw [look_in b (List.pairwise_map.mpr db.rise) i hlt] at fe
        refine ev_unroll ?_
        simp only [laws_FnDiffed.l0, if_pos (show (i : Int) < (b.length : Int) by omega), if_pos (show (0 : Int) ≤ (i : Int) by omega), fe, Option.bind_some, if_true, hw.out]
        exact ih (i + 1) (by omega) (by omega)
      · exact last i (by omega)
  exact loop b.length 0 (by omega) (by omega)

end Go.Proofs.YtfepbnolgceadaaDoor.Pure
