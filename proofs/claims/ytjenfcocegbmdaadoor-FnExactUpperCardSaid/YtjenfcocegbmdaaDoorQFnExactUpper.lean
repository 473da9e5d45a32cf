/- The program's Upper answers as the reference's, for every text. -/
import Derived.Test.YtjenfcocegbmdaaDoorMFnExactUpperx7
import Derived.Test.YtjenfcocegbmdaaDoorKit
namespace Go.Proofs.YtjenfcocegbmdaaDoor.Pure
set_option linter.unusedSimpArgs false
set_option linter.unusedVariables false
set_option linter.unusedSectionVars false
open Go Go.RowKit Go.Proofs.YtjenfcocegbmdaaDoor.MFnExactUpper Go.Proofs.YtjenfcocegbmdaaDoorW.PrintWords Go.Proofs.YtjenfcocegbmdaaDoorW.PrintLast Go.Proofs.YtjenfcocegbmdaaDoor.Mine

theorem bt_get (s : ByteArray) (i : Nat) (h : i < s.size) : bt s (i : Int) = ((s.get! i).toNat : Int) := by
  unfold bt
  rw [dif_pos (by simpa using h), Utf8W.get!_of_lt s i h]
  simp
theorem l1In_eq (x a b : Int) : spec_l1In.f x a b = some (decide (a ≤ x ∧ x ≤ b)) := by
  unfold spec_l1In.f
  by_cases h : a ≤ x
  · simp [h]
  · simp [h]
theorem spec_letter_eq (x : Int) : spec_l19Letter.f x = some (Hand.letterB x) := by
  unfold spec_l19Letter.f Hand.letterB
  simp only [l1In_eq, Option.bind_some, ge_iff_le]
  by_cases a1 : 65 ≤ x ∧ x ≤ 90
  · simp [a1.1, a1.2]
  by_cases a2 : 97 ≤ x ∧ x ≤ 122
  · simp [show 65 ≤ x by omega, show ¬ x ≤ 90 by omega, a2.1, a2.2]
  have hlow : ∀ (p q : Option Bool), (if 65 ≤ x then (if x ≤ 90 then some true else (if 97 ≤ x then (if x ≤ 122 then some true else p) else p)) else (if 97 ≤ x then (if x ≤ 122 then some true else p) else p)) = p := by
    intro p q
    split
    · rw [if_neg (by omega)]
      split
      · rw [if_neg (by omega)]
      · rfl
    · split
      · rw [if_neg (by omega)]
      · rfl
  refine (hlow _ none).trans ?_
  by_cases a3 : 192 ≤ x ∧ x ≤ 591
  · by_cases a4 : x = 215
    · subst a4; simp
    · by_cases a5 : x = 247
      · subst a5; simp
      · simp [a1, a2, a3, a4, a5]
  by_cases a6 : 913 ≤ x ∧ x ≤ 969
  · have a7 : ¬ (1040 ≤ x ∧ x ≤ 1103) := by omega
    have a8 : ¬ (192 ≤ x ∧ x ≤ 591 ∧ x ≠ 215 ∧ x ≠ 247) := fun h => a3 ⟨h.1, h.2.1⟩
    by_cases a9 : x = 930
    · subst a9; simp
    · simp [a1, a2, a3, a6, a7, a8, a9]
  · have a8 : ¬ (192 ≤ x ∧ x ≤ 591 ∧ x ≠ 215 ∧ x ≠ 247) := fun h => a3 ⟨h.1, h.2.1⟩
    have a9 : ¬ (913 ≤ x ∧ x ≤ 969 ∧ x ≠ 930) := fun h => a6 ⟨h.1, h.2.1⟩
    simp only [decide_eq_false a1, decide_eq_false a2, decide_eq_false a3, decide_eq_false a6, decide_eq_false a8, decide_eq_false a9, Bool.false_eq_true, if_false, Bool.false_or]
/-- A rune as the reference reads it, and as the program does. -/
theorem rune_step (s : ByteArray) (pos : Nat) (h : pos < s.size) (hs : s.size ≤ 140737488351232) :
    (∃ R K : Nat, Utf8.decode s pos = (R, K) ∧ spec_l19Rune.f s (pos : Int) = some ((R : Int), (K : Int)) ∧ 1 ≤ K ∧ K ≤ 2 ∧ pos + K ≤ s.size ∧ R < 2048)
    ∨ (spec_l19Rune.f s (pos : Int) = some (0, 0) ∧ 2048 ≤ (Utf8.decode s pos).1) := by
  have hb := Aside0.mk (bt_get s pos h)
  have hw := Aside0.mk (show wrap64 ((pos : Int) + 1) = ((pos + 1 : Nat) : Int) from (w64 (by omega) (by omega)).trans (by omega))
  have k0 := (s.get! pos).toNat_lt
  have k1 := (s.get! (pos + 1)).toNat_lt
  have hb2 := Aside0.mk (bt_get s (pos + 1))
  have hd := Aside0.mk (Lib.decode_at s pos)
  generalize (s.get! pos).toNat = b0 at hb hd k0
  generalize (s.get! (pos + 1)).toNat = b1 at hb2 hd k1
  generalize (s.get! (pos + 2)).toNat = b2 at hd
  generalize (s.get! (pos + 3)).toNat = b3 at hd
  obtain ⟨n, hn⟩ : ∃ n, s.size = n := ⟨_, rfl⟩
  have hn2 := Aside0.mk hn
  unfold spec_l19Rune.f
  rw [hn]
  rw [hn] at h hs
  clear hn
  rw [if_pos (by omega), if_pos (by omega), hb.out, hw.out]
  have hwb := Aside0.mk (show wrap64 (b0 : Int) = (b0 : Int) from w64 (by omega) (by omega))
  rw [hwb.out]
  by_cases c0 : b0 < 128
  · left
    refine ⟨b0, 1, ?_, ?_, by omega, by omega, by omega, by omega⟩
    · rw [hd.out, Lib.decodeN_ascii _ _ _ _ _ c0]
    · rw [if_pos (by omega)]; rfl
  rw [if_neg (by omega)]
  by_cases c1 : 194 ≤ b0 ∧ b0 ≤ 223 ∧ pos + 1 < n ∧ 128 ≤ b1 ∧ b1 ≤ 191
  · obtain ⟨d0, d1, d2, d3, d4⟩ := c1
    have hb3 := Aside0.mk (hb2.out (by rw [hn2.out]; exact d2))
    have hwb1 := Aside0.mk (show wrap64 (b1 : Int) = (b1 : Int) from w64 (by omega) (by omega))
    left
    refine ⟨(b0 - 192) * 64 + (b1 - 128), 2, ?_, ?_, by omega, by omega, by omega, by omega⟩
    · rw [hd.out, hn2.out]
      unfold Lib.decodeN
      rw [if_neg c0, if_pos ⟨by omega, by omega, by omega⟩, if_pos (by omega), show b0 % 32 * 64 + b1 % 64 = (b0 - 192) * 64 + (b1 - 128) by omega]
    · rw [if_neg (by omega), if_neg (by omega), if_neg (by omega), if_pos (by omega), if_pos (by omega), hb3.out, if_neg (by omega), if_neg (by omega), hwb1.out]
      rw [w64 (x := (b0 : Int) - 192) (by omega) (by omega), w64 (x := ((b0 : Int) - 192) * 64) (by omega) (by omega), w64 (x := ((b0 : Int) - 192) * 64 + (b1 : Int)) (by omega) (by omega), w64 (x := ((b0 : Int) - 192) * 64 + (b1 : Int) - 128) (by omega) (by omega)]
      rw [show ((((b0 - 192) * 64 + (b1 - 128) : Nat) : Nat) : Int) = ((b0 : Int) - 192) * 64 + (b1 : Int) - 128 by omega]
      rfl
  · right
    constructor
    · by_cases e0 : b0 < 194
      · rw [if_pos (by omega)]
      rw [if_neg (by omega)]
      by_cases e1 : 223 < b0
      · rw [if_pos (by omega)]
      rw [if_neg (by omega)]
      by_cases e2 : n ≤ pos + 1
      · rw [if_pos (by omega)]
      have hb3 := Aside0.mk (hb2.out (by rw [hn2.out]; omega))
      rw [if_neg (by omega), if_pos (by omega), if_pos (by omega), hb3.out]
      by_cases e3 : b1 < 128
      · rw [if_pos (by omega)]
      rw [if_neg (by omega), if_pos (by omega)]
    · rw [hd.out, hn2.out]
      have hsh := Lib.decodeN_shape (n - pos) b0 b1 b2 b3
      clear hd hb hw hb2 hn2 hwb
      rcases hsh with ⟨x, _⟩ | ⟨x1, x2, x3, x4, _⟩ | ⟨_, _, _, _, x, _, e⟩ | ⟨_, _, _, _, _, x, _, e⟩ | e
      · omega
      · exfalso; apply c1; omega
      · rw [e]; exact x
      · rw [e]; exact Nat.le_trans (by omega) x
      · rw [e]; simp
theorem high_rune (R : Nat) (h : 2048 ≤ R) (f : Bool) : Hand.runeB (R : Int) f = false := by
  unfold Hand.runeB Hand.letterB
  rw [Hand.sign_high _ (by omega), decide_eq_false (by omega), decide_eq_false (by omega), decide_eq_false (by omega), decide_eq_false (by omega), decide_eq_false (by omega)]
  simp
theorem word_from (s : ByteArray) (hs : s.size ≤ 140737488351232) : ∀ (d pos many : Nat), s.size - pos ≤ d → pos ≤ s.size → many ≤ pos → (many = 0 ↔ pos = 0) →
    Ev (fun k => spec_WordOk.l0 k s (many : Int) (pos : Int)) (Lib.validD (s.data.toList.drop pos) && decide (1 ≤ many + Lib.runeCountFrom s d pos ∧ many + Lib.runeCountFrom s d pos ≤ 16) && Hand.runesFrom s d pos) := by
  have last : ∀ (d pos many : Nat), pos = s.size → Ev (fun k => spec_WordOk.l0 k s (many : Int) (pos : Int)) (Lib.validD (s.data.toList.drop pos) && decide (1 ≤ many + Lib.runeCountFrom s d pos ∧ many + Lib.runeCountFrom s d pos ≤ 16) && Hand.runesFrom s d pos) := by
    intro d pos many hp
    refine ev_unroll ?_
    simp only [spec_WordOk.l0, if_neg (show ¬ (pos : Int) < (s.size : Int) by omega), l1In_eq, Option.bind_some]
    rw [Lib.runeCountFrom_end s d pos (by omega), Hand.runesFrom_end s d pos (by omega), List.drop_eq_nil_of_le (by rw [hp]; exact Nat.le_of_eq (Lib.size_eq s).symm)]
    refine ev_eq (Ev.now _) ?_
    have e : Lib.validD [] = true := rfl
    rw [e, Bool.true_and, Bool.and_true, Nat.add_zero, decide_eq_decide]
    omega
  intro d
  induction d with
  | zero => exact fun pos many hd hp _ _ => last 0 pos many (by omega)
  | succ d ih =>
    intro pos many hd hp hm hz
    by_cases hlt : pos < s.size
    · have hl : s.data.toList.length = s.size := (Lib.size_eq s).symm
      have hne : s.data.toList.drop pos ≠ [] := by
        intro h
        have := congrArg List.length h
        rw [List.length_drop, List.length_nil] at this
        omega
      rcases rune_step s pos hlt hs with ⟨R, K, e1, e2, p1, p2, p3, p4⟩ | ⟨e2, p1⟩
      · have hv : Lib.validD (s.data.toList.drop pos) = Lib.validD (s.data.toList.drop (pos + K)) := by
          rw [Lib.validD_step _ hne, Lib.decodeL_drop, e1]
          simp only
          rw [if_neg (by omega), List.drop_drop]
        have hc : Lib.runeCountFrom s (d + 1) pos = 1 + Lib.runeCountFrom s d (pos + K) := by
          simp only [Lib.runeCountFrom]
          rw [if_pos hlt, e1]
        have hr : Hand.runesFrom s (d + 1) pos = (Hand.runeB (R : Int) (pos == 0) && Hand.runesFrom s d (pos + K)) := by
          simp only [Hand.runesFrom]
          rw [if_pos hlt, e1]
        have q := ih (pos + K) (many + 1) (by omega) (by omega) (by omega) (by omega)
        rw [hv, hc, hr]
        have ew1 := Aside0.mk (show wrap64 ((many : Int) + 1) = ((many + 1 : Nat) : Int) from (w64 (by omega) (by omega)).trans (by omega))
        have ew2 := Aside0.mk (show wrap64 ((pos : Int) + (K : Int)) = ((pos + K : Nat) : Int) from (w64 (by omega) (by omega)).trans (by omega))
        have q2 : Hand.runeB (R : Int) (pos == 0) = true → Ev (fun k => spec_WordOk.l0 k s (wrap64 ((many : Int) + 1)) (wrap64 ((pos : Int) + (K : Int)))) (Lib.validD (s.data.toList.drop (pos + K)) && decide (1 ≤ many + (1 + Lib.runeCountFrom s d (pos + K)) ∧ many + (1 + Lib.runeCountFrom s d (pos + K)) ≤ 16) && (Hand.runeB (R : Int) (pos == 0) && Hand.runesFrom s d (pos + K))) := by
          intro h
          rw [ew1.out, ew2.out, h, Bool.true_and, show many + (1 + Lib.runeCountFrom s d (pos + K)) = many + 1 + Lib.runeCountFrom s d (pos + K) by omega]
          exact q
        have q3 : Hand.runeB (R : Int) (pos == 0) = false → false = (Lib.validD (s.data.toList.drop (pos + K)) && decide (1 ≤ many + (1 + Lib.runeCountFrom s d (pos + K)) ∧ many + (1 + Lib.runeCountFrom s d (pos + K)) ≤ 16) && (Hand.runeB (R : Int) (pos == 0) && Hand.runesFrom s d (pos + K))) := by
          intro h
          rw [h, Bool.false_and, Bool.and_false]
        refine ev_unroll ?_
        simp only [spec_WordOk.l0, if_pos (show (pos : Int) < (s.size : Int) by omega), e2, Option.bind_some, if_neg (show ¬ (K : Int) = 0 by omega), spec_letter_eq]
        cases hL : Hand.letterB (R : Int)
        · simp only [Bool.false_eq_true, if_false]
          by_cases h0 : many = 0
          · have h1 : pos = 0 := hz.1 h0
            have hB : Hand.runeB (R : Int) (pos == 0) = false := by unfold Hand.runeB; rw [hL, h1]; rfl
            simp only [if_pos (show (many : Int) = 0 by omega)]
            exact ev_eq (Ev.now _) (q3 hB)
          · have h1 : (pos == 0) = false := beq_eq_false_iff_ne.mpr (fun h => h0 (hz.2 h))
            have hB : Hand.runeB (R : Int) (pos == 0) = Hand.signB (R : Int) := by unfold Hand.runeB; rw [hL, h1]; rfl
            simp only [if_neg (show ¬ (many : Int) = 0 by omega)]
            by_cases s1 : (R : Int) = 45
            · simp only [if_pos s1]; exact q2 (by rw [hB, s1]; rfl)
            simp only [if_neg s1]
            by_cases s2 : (R : Int) = 95
            · simp only [if_pos s2]; exact q2 (by rw [hB, s2]; rfl)
            simp only [if_neg s2]
            by_cases s3 : (R : Int) = 46
            · simp only [if_pos s3]; exact q2 (by rw [hB, s3]; rfl)
            simp only [if_neg s3, l1In_eq, Option.bind_some]
            by_cases s4 : 48 ≤ (R : Int) ∧ (R : Int) ≤ 57
            · simp only [decide_eq_true s4, if_true]
              exact q2 (by rw [hB]; unfold Hand.signB; rw [decide_eq_true s4]; rfl)
            · simp only [decide_eq_false s4, Bool.false_eq_true, if_false]
              refine ev_eq (Ev.now _) (q3 ?_)
              rw [hB]
              unfold Hand.signB
              rw [decide_eq_false s4, decide_eq_false s1, decide_eq_false s2, decide_eq_false s3]
              rfl
        · simp only [if_true]
          exact q2 (by unfold Hand.runeB; rw [hL]; rfl)
      · have hr : Hand.runesFrom s (d + 1) pos = false := by
          simp only [Hand.runesFrom]
          rw [if_pos hlt, high_rune _ p1, Bool.false_and]
        rw [hr, Bool.and_false]
        refine ev_unroll ?_
        simp only [spec_WordOk.l0, if_pos (show (pos : Int) < (s.size : Int) by omega), e2, Option.bind_some, if_true]
        exact Ev.now _
    · exact last (d + 1) pos many (by omega)
theorem word_ev (s : ByteArray) (hs : s.size ≤ 140737488351232) : Ev (fun k => spec_WordOk.f k s) (Hand.wordB s) := by
  have h := word_from s hs s.size 0 0 (by omega) (by omega) (by omega) (by omega)
  simp only [Nat.zero_add, List.drop_zero] at h
  exact h
theorem put_eq (x : Int) (h0 : 0 ≤ x) (h1 : x ≤ 2047) : spec_l19Put.f x = some ⟨(Lib.encodeRune x).toArray⟩ := by
  unfold spec_l19Put.f Lib.encodeRune
  by_cases c : x < 128
  · rw [if_pos c, Lib.encodeRuneZ_one h0 (by omega)]
    refine congrArg some ?_
    rw [show x % 256 = x by omega]
    rfl
  · have hd : Int.tdiv x 64 = x / 64 := Int.tdiv_eq_ediv_of_nonneg h0
    have hm : Int.tmod x 64 = x % 64 := Int.tmod_eq_emod_of_nonneg h0
    rw [if_neg c, Lib.encodeRuneZ_two (by omega) h1, hd, hm]
    have e1 : wrap64 (x / 64) = x / 64 := w64 (by omega) (by omega)
    have e2 : wrap64 (192 + x / 64) = 192 + x / 64 := w64 (by omega) (by omega)
    have e3 : wrap64 (128 + x % 64) = 128 + x % 64 := w64 (by omega) (by omega)
    rw [e1, e2, e3, show (192 + x / 64) % 256 = 192 + x / 64 by omega, show (128 + x % 64) % 256 = 128 + x % 64 by omega]
    rfl
theorem up_tree {α : Type} (R : Int) (A B : Option α) :
    (if 97 ≤ R then (if R ≤ 122 then A else if decide (224 ≤ R ∧ R ≤ 254) = true then (if R = 247 then (if decide (945 ≤ R ∧ R ≤ 969) = true then (if R = 962 then (if decide (1072 ≤ R ∧ R ≤ 1103) = true then A else B) else A) else (if decide (1072 ≤ R ∧ R ≤ 1103) = true then A else B)) else A) else (if decide (945 ≤ R ∧ R ≤ 969) = true then (if R = 962 then (if decide (1072 ≤ R ∧ R ≤ 1103) = true then A else B) else A) else (if decide (1072 ≤ R ∧ R ≤ 1103) = true then A else B)))
     else if decide (224 ≤ R ∧ R ≤ 254) = true then (if R = 247 then (if decide (945 ≤ R ∧ R ≤ 969) = true then (if R = 962 then (if decide (1072 ≤ R ∧ R ≤ 1103) = true then A else B) else A) else (if decide (1072 ≤ R ∧ R ≤ 1103) = true then A else B)) else A) else (if decide (945 ≤ R ∧ R ≤ 969) = true then (if R = 962 then (if decide (1072 ≤ R ∧ R ≤ 1103) = true then A else B) else A) else (if decide (1072 ≤ R ∧ R ≤ 1103) = true then A else B)))
    = if Hand.upB R = true then A else B := by
  have hu : Hand.upB R = true ↔ (97 ≤ R ∧ R ≤ 122) ∨ ((224 ≤ R ∧ R ≤ 254) ∧ R ≠ 247) ∨ ((945 ≤ R ∧ R ≤ 969) ∧ R ≠ 962) ∨ (1072 ≤ R ∧ R ≤ 1103) := by
    unfold Hand.upB
    simp only [Bool.or_eq_true, Bool.and_eq_true, decide_eq_true_eq, bne_iff_ne, or_assoc]
  by_cases h : Hand.upB R = true
  · rw [if_pos h]
    have h2 := hu.1 h
    simp only [decide_eq_true_eq]
    repeat' split
    all_goals first | rfl | (exfalso; omega)
  · rw [if_neg h]
    have h2 : ¬ ((97 ≤ R ∧ R ≤ 122) ∨ ((224 ≤ R ∧ R ≤ 254) ∧ R ≠ 247) ∨ ((945 ≤ R ∧ R ≤ 969) ∧ R ≠ 962) ∨ (1072 ≤ R ∧ R ≤ 1103)) := fun h3 => h (hu.2 h3)
    simp only [decide_eq_true_eq]
    repeat' split
    all_goals first | rfl | (exfalso; omega)
theorem ev_of_eq {α : Type} {g g' : Nat → Option α} {r : α} (h : ∀ k, g k = g' k) (q : Ev g' r) : Ev g r := by
  have e : g = g' := funext h
  rw [e]; exact q
theorem encode_size (x : Int) : (Lib.encodeRune x).length ≤ 4 := by
  unfold Lib.encodeRune Lib.encodeRuneZ
  rw [List.length_map]
  repeat' split
  all_goals simp
theorem mk_size (l : List UInt8) : (⟨l.toArray⟩ : ByteArray).size = l.length := by simp [ByteArray.size]
theorem mk_append (s : ByteArray) (l m : List UInt8) : s ++ (⟨l.toArray⟩ : ByteArray) ++ (⟨m.toArray⟩ : ByteArray) = s ++ (⟨(l ++ m).toArray⟩ : ByteArray) := by
  apply ByteArray.ext
  simp [ByteArray.data_append, Array.append_assoc]
theorem up_from (s : ByteArray) (hs : s.size ≤ 1048576) : ∀ (d pos : Nat) (out : ByteArray), s.size - pos ≤ d → pos ≤ s.size → Hand.runesFrom s d pos = true → out.size ≤ 4 * pos →
    Ev (fun k => spec_Upper.l0 k s out (pos : Int)) (out ++ (⟨(Lib.mapD Hand.upF (s.data.toList.drop pos)).toArray⟩ : ByteArray)) := by
  have last : ∀ (pos : Nat) (out : ByteArray), pos = s.size → Ev (fun k => spec_Upper.l0 k s out (pos : Int)) (out ++ (⟨(Lib.mapD Hand.upF (s.data.toList.drop pos)).toArray⟩ : ByteArray)) := by
    intro pos out hp
    refine ev_unroll ?_
    simp only [spec_Upper.l0, if_neg (show ¬ (pos : Int) < (s.size : Int) by omega)]
    rw [List.drop_eq_nil_of_le (by rw [hp]; exact Nat.le_of_eq (Lib.size_eq s).symm)]
    refine ev_eq (Ev.now _) ?_
    have e : Lib.mapD Hand.upF [] = [] := rfl
    rw [e]
    apply ByteArray.ext
    simp [ByteArray.data_append]
  intro d
  induction d with
  | zero => exact fun pos out hd hp _ _ => last pos out (by omega)
  | succ d ih =>
    intro pos out hd hp hr ho
    by_cases hlt : pos < s.size
    · have hl : s.data.toList.length = s.size := (Lib.size_eq s).symm
      have hne : s.data.toList.drop pos ≠ [] := by
        intro h
        have := congrArg List.length h
        rw [List.length_drop, List.length_nil] at this
        omega
      simp only [Hand.runesFrom, if_pos hlt, Bool.and_eq_true] at hr
      rcases rune_step s pos hlt (by omega) with ⟨R, K, e1, e2, p1, p2, p3, p4⟩ | ⟨e2, p1⟩
      · rw [e1] at hr
        simp only at hr
        have ew2 := Aside0.mk (show wrap64 ((pos : Int) + (K : Int)) = ((pos + K : Nat) : Int) from (w64 (by omega) (by omega)).trans (by omega))
        have hm := Lib.mapD_step Hand.upF (s.data.toList.drop pos) hne
        rw [Lib.decodeL_drop, e1] at hm
        simp only [List.drop_drop] at hm
        have hu : 0 ≤ Hand.upF (R : Int) ∧ Hand.upF (R : Int) ≤ 2047 := by
          unfold Hand.upF
          split
          · rename_i h
            unfold Hand.upB at h
            simp only [Bool.or_eq_true, Bool.and_eq_true, decide_eq_true_eq, bne_iff_ne] at h
            omega
          · omega
        rw [if_pos hu.1] at hm
        have hsz := encode_size (Hand.upF (R : Int))
        have q := ih (pos + K) (out ++ (⟨(Lib.encodeRune (Hand.upF (R : Int))).toArray⟩ : ByteArray)) (by omega) (by omega) hr.2 (by rw [ByteArray.size_append, mk_size (Lib.encodeRune (Hand.upF (R : Int)))]; omega)
        rw [mk_append, ← hm] at q
        refine ev_unroll ?_
        simp only [spec_Upper.l0, if_pos (show (pos : Int) < (s.size : Int) by omega), e2, Option.bind_some, l1In_eq, ge_iff_le]
        refine ev_of_eq (fun k => up_tree (R : Int) _ _) ?_
        have key : spec_l19Put.f (Hand.upF (R : Int)) = some ⟨(Lib.encodeRune (Hand.upF (R : Int))).toArray⟩ := put_eq _ hu.1 hu.2
        by_cases hU : Hand.upB (R : Int) = true
        · have e3 : Hand.upF (R : Int) = (R : Int) - 32 := by unfold Hand.upF; rw [if_pos hU]
          have hw := Aside0.mk (show wrap64 ((R : Int) - 32) = (R : Int) - 32 from w64 (by omega) (by omega))
          rw [e3] at key q
          simp only [if_pos hU, hw.out, key, Option.bind_some, ew2.out]
          simp only [if_pos (show out.size + (⟨(Lib.encodeRune ((R : Int) - 32)).toArray⟩ : ByteArray).size ≤ 9223372036854775807 by rw [mk_size (Lib.encodeRune ((R : Int) - 32))]; have h9 := encode_size ((R : Int) - 32); omega)]
          exact q
        · have e3 : Hand.upF (R : Int) = (R : Int) := by unfold Hand.upF; rw [if_neg hU]
          rw [e3] at key q
          simp only [if_neg hU, key, Option.bind_some, ew2.out]
          simp only [if_pos (show out.size + (⟨(Lib.encodeRune (R : Int)).toArray⟩ : ByteArray).size ≤ 9223372036854775807 by rw [mk_size (Lib.encodeRune (R : Int))]; have h9 := encode_size (R : Int); omega)]
          exact q
      · rw [high_rune _ p1] at hr
        exact absurd hr.1 (by decide)
    · exact last pos out (by omega)
theorem upper_ev (s : ByteArray) (hs : s.size ≤ 1048576) : Ev (fun k => spec_Upper.f k s) (Hand.upperS s) := by
  unfold spec_Upper.f Hand.upperS
  refine Ev.bind (word_ev s (by omega)) ?_
  cases hw : Hand.wordB s
  · simp only [Bool.false_eq_true, if_false]
    exact Ev.now _
  · simp only [if_true]
    have hr : Hand.runesFrom s s.size 0 = true := by
      unfold Hand.wordB at hw
      simp only [Bool.and_eq_true] at hw
      exact hw.2
    have h := up_from s hs s.size 0 ⟨#[]⟩ (by omega) (by omega) hr (by simp [ByteArray.size])
    simp only [List.drop_zero] at h
    refine ev_eq h ?_
    apply ByteArray.ext
    simp [ByteArray.data_append]
theorem impl_upper_ev (s : ByteArray) (hs : s.size < 35184372088832) : Ev (fun k => impl_Upper.f k s) (Hand.upperS s) := by
  refine ⟨0, fun k _ => ?_⟩
  simp only [impl_Upper.f, if_pos hs]
theorem FnExactUpper : laws_FnExactUpper.Pure := by
  intro a0 h0
  refine Ev.rounds (g := fun k => laws_FnExactUpper.f k a0) ?_
  by_cases hb : (a0.size : Int) > 1048576
  · simp only [laws_FnExactUpper.f, if_pos hb]
    exact Ev.now _
  simp only [laws_FnExactUpper.f, if_neg hb]
  refine Ev.bind (upper_ev a0 (by omega)) (Ev.bind (impl_upper_ev a0 (by omega)) ?_)
  simp only [if_true]
  exact Ev.now _

end Go.Proofs.YtjenfcocegbmdaaDoor.Pure
