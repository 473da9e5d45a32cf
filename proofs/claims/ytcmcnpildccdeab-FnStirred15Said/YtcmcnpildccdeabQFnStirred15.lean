/- The law FnStirred15: for every code, drawn bits that are stirred twice with one key are what they were, by a key of one other bit they are not where there are sixteen of them, and what is woven and unwoven is what it was. -/
import Derived.Test.YtcmcnpildccdeabMFnStirred15x5
import Derived.Test.YtcmcnpildccdeabKit
namespace Go.Proofs.Ytcmcnpildccdeab.Pure
set_option linter.unusedSimpArgs false
set_option linter.unusedVariables false
open Go Go.RowKit Go.Proofs.Ytcmcnpildccdeab.MFnStirred15 Go.Proofs.YtcmcnpildccdeabW.PrintWords Go.Proofs.YtcmcnpildccdeabW.PrintLast Go.Proofs.Ytcmcnpildccdeab.Mine

theorem in_t {a b c : Int} (h : b ≤ a) (h2 : a ≤ c) : impl_in.f a b c = some true := by
  unfold impl_in.f
  rw [if_pos (by omega)]; simp [h2]
theorem in_f {a b c : Int} (h : ¬ (b ≤ a ∧ a ≤ c)) : impl_in.f a b c = some false := by
  unfold impl_in.f
  by_cases g : a ≥ b
  · rw [if_pos g]; simp; omega
  · rw [if_neg g]
theorem l1In_t {a b c : Int} (h : b ≤ a) (h2 : a ≤ c) : spec_l1In.f a b c = some true := by
  unfold spec_l1In.f
  rw [if_pos (by omega)]; simp [h2]
theorem l1In_f {a b c : Int} (h : ¬ (b ≤ a ∧ a ≤ c)) : spec_l1In.f a b c = some false := by
  unfold spec_l1In.f
  by_cases g : a ≥ b
  · rw [if_pos g]; simp; omega
  · rw [if_neg g]
theorem l1New_ev (x0 : List Int) : ∃ h, Ev (fun k => spec_l1New.f k x0) (x0, 0, h) := by
  have key : ∀ (d : Nat) (i h : Int), 4000 - i ≤ d → 0 ≤ i → ∃ h', Ev (fun k => spec_l1New.l0 k x0 h i) (x0, 0, h') := by
    intro d
    induction d with
    | zero =>
      intro i h hd h0
      refine ⟨h, ev_unroll ?_⟩
      by_cases hlt : i < (x0.length : Int)
      · simp (disch := omega) only [spec_l1New.l0, ↓if_pos, ↓if_neg, if_pos, if_neg, ↓reduceIte, w64, in_t, in_f, l1In_t, l1In_f, Option.bind_some, Bool.not_true, Bool.not_false, Bool.false_eq_true, tmod_nonneg, tdiv_nonneg]
        exact Ev.now _
      · simp (disch := omega) only [spec_l1New.l0, ↓if_pos, ↓if_neg, if_pos, if_neg, ↓reduceIte, w64, in_t, in_f, l1In_t, l1In_f, Option.bind_some, Bool.not_true, Bool.not_false, Bool.false_eq_true, tmod_nonneg, tdiv_nonneg]
        exact Ev.now _
    | succ d ih =>
      intro i h hd h0
      by_cases hlt : i < (x0.length : Int)
      · by_cases h4 : i < 4000
        · obtain ⟨h', p⟩ := ih (i + 1) (Go.bits .and .i64 (wrap64 ((wrap64 ((wrap64 (h * 131)) + (wrap64 (rd x0 i)))) + 7)) 1073741823) (by omega) (by omega)
          refine ⟨h', ev_unroll ?_⟩
          simp only [spec_l1New.l0, if_pos hlt, if_pos h4, if_pos h0]
          rw [w64 (x := i + 1) (by omega) (by omega)]
          exact p
        · refine ⟨h, ev_unroll ?_⟩
          simp (disch := omega) only [spec_l1New.l0, ↓if_pos, ↓if_neg, if_pos, if_neg, ↓reduceIte, w64, in_t, in_f, l1In_t, l1In_f, Option.bind_some, Bool.not_true, Bool.not_false, Bool.false_eq_true, tmod_nonneg, tdiv_nonneg]
          exact Ev.now _
      · refine ⟨h, ev_unroll ?_⟩
        simp (disch := omega) only [spec_l1New.l0, ↓if_pos, ↓if_neg, if_pos, if_neg, ↓reduceIte, w64, in_t, in_f, l1In_t, l1In_f, Option.bind_some, Bool.not_true, Bool.not_false, Bool.false_eq_true, tmod_nonneg, tdiv_nonneg]
        exact Ev.now _
  obtain ⟨h', p⟩ := key 4000 0 (wrap64 (71933 + (x0.length : Int))) (by omega) (by omega)
  exact ⟨h', p⟩
theorem l1Byte_some (b : List Int) (i h : Int) (hb : b.length ≤ 1048576) (h0 : 0 ≤ i) (h1 : i ≤ 1048576) :
    ∃ v i' h', spec_l1Byte.f b i h = some (v, i', h') ∧ 0 ≤ v ∧ v ≤ 255 ∧ 0 ≤ i' ∧ i' ≤ 1048576 := by
  unfold spec_l1Byte.f
  by_cases hlt : i < (b.length : Int)
  · rw [if_pos hlt, if_pos h0, w64 (x := i + 1) (by omega) (by omega)]
    refine ⟨_, _, _, rfl, ?_, ?_, by omega, by omega⟩
    · rw [and255]; omega
    · rw [and255]; omega
  · rw [if_neg hlt]
    refine ⟨_, _, _, rfl, ?_, ?_, h0, h1⟩
    · rw [and255]; omega
    · rw [and255]; omega
theorem l1Below_some (b : List Int) (i h n : Int) (hb : b.length ≤ 1048576) (h0 : 0 ≤ i) (h1 : i ≤ 1048576) :
    ∃ v i' h', spec_l1Below.f b i h n = some (v, i', h') ∧ 0 ≤ v ∧ (0 < n → v < n) ∧ (n ≤ 0 → v = 0) ∧ 0 ≤ i' ∧ i' ≤ 1048576 := by
  unfold spec_l1Below.f
  by_cases hn : n ≤ 0
  · rw [if_pos hn]
    exact ⟨0, i, h, rfl, by omega, by omega, fun _ => rfl, h0, h1⟩
  rw [if_neg hn]
  by_cases hm : n ≤ 256
  · rw [if_pos hm]
    obtain ⟨v, i1, s1, e1, p1, p2, p3, p4⟩ := l1Byte_some b i h hb h0 h1
    rw [e1]
    simp only [Option.bind_some]
    rw [if_neg (by omega), tmod_nonneg p1]
    exact ⟨_, _, _, rfl, Int.emod_nonneg _ (by omega), fun _ => Int.emod_lt_of_pos _ (by omega), fun h => absurd h hn, p3, p4⟩
  · rw [if_neg hm]
    obtain ⟨v1, i1, s1, e1, p1, p2, p3, p4⟩ := l1Byte_some b i h hb h0 h1
    obtain ⟨v2, i2, s2, e2, q1, q2, q3, q4⟩ := l1Byte_some b i1 s1 hb p3 p4
    obtain ⟨v3, i3, s3, e3, r1, r2, r3, r4⟩ := l1Byte_some b i2 s2 hb q3 q4
    obtain ⟨v4, i4, s4, e4, t1, t2, t3, t4⟩ := l1Byte_some b i3 s3 hb r3 r4
    rw [e1]
    simp only [Option.bind_some]
    rw [e2]
    simp only [Option.bind_some]
    rw [e3]
    simp only [Option.bind_some]
    rw [e4]
    simp only [Option.bind_some]
    rw [if_neg (by omega)]
    refine ⟨_, _, _, rfl, ?_, ?_, fun h => absurd h hn, t3, t4⟩
    · simp (disch := omega) only [w64]
      rw [tmod_nonneg (by omega)]
      exact Int.emod_nonneg _ (by omega)
    · intro _
      simp (disch := omega) only [w64]
      rw [tmod_nonneg (by omega)]
      exact Int.emod_lt_of_pos _ (by omega)
theorem l1Once_some (b : List Int) (i h n : Int) (hb : b.length ≤ 1048576) (h0 : 0 ≤ i) (h1 : i ≤ 1048576) :
    ∃ v i' h', spec_l1Once.f b i h n = some (v, i', h') ∧ 0 ≤ i' ∧ i' ≤ 1048576 := by
  unfold spec_l1Once.f
  obtain ⟨v, i1, s1, e1, p1, p2, p3, p4, p5⟩ := l1Below_some b i h n hb h0 h1
  rw [e1]
  exact ⟨_, _, _, rfl, p4, p5⟩
theorem l1PickInt_some (b : List Int) (i h : Int) (l : List Int) (hl : 0 < l.length) (hb : b.length ≤ 1048576) (h0 : 0 ≤ i) (h1 : i ≤ 1048576) :
    ∃ v i' h', spec_l1PickInt.f b i h l = some (v, i', h') ∧ v ∈ l ∧ 0 ≤ i' ∧ i' ≤ 1048576 := by
  unfold spec_l1PickInt.f
  obtain ⟨v, i1, s1, e1, p1, p2, p3, p4, p5⟩ := l1Below_some b i h (l.length : Int) hb h0 h1
  rw [e1]
  simp only [Option.bind_some]
  rw [if_pos p1, if_pos (p2 (by omega))]
  exact ⟨_, _, _, rfl, rd_mem p1 (p2 (by omega)), p4, p5⟩
theorem at_some (x0 : List Int) (i : Int) (h : ∀ x ∈ x0, (Lit.int .u8 x).wf = true) (hb : x0.length ≤ 1048576) (h0 : 0 ≤ i) (h1 : i ≤ 1000) : ∃ a, laws_at.f x0 i = some a ∧ 0 ≤ a ∧ a ≤ 255 := by
  unfold laws_at.f
  by_cases hlt : i < (x0.length : Int)
  · have hw := wf8 (h _ (rd_mem h0 hlt))
    simp (disch := omega) only [↓if_pos, ↓if_neg, if_pos, if_neg, ↓reduceIte, w64, in_t, in_f, l1In_t, l1In_f, Option.bind_some, Bool.not_true, Bool.not_false, Bool.false_eq_true, tmod_nonneg, tdiv_nonneg]
    exact ⟨_, rfl, by omega, by omega⟩
  · simp (disch := omega) only [↓if_pos, ↓if_neg, if_pos, if_neg, ↓reduceIte, w64, in_t, in_f, l1In_t, l1In_f, Option.bind_some, Bool.not_true, Bool.not_false, Bool.false_eq_true, tmod_nonneg, tdiv_nonneg]
    exact ⟨_, rfl, by omega, by omega⟩
theorem sameInts_ev (x0 : List Int) (x1 : List Int) (hn : x0.length ≤ 1048576) : Ev (fun k => laws_sameInts.f k x0 x1) (decide (x0 = x1)) := by
  by_cases hl : x0.length = x1.length
  · have key : ∀ (d : Nat) (i : Nat), x0.length - i = d → i ≤ x0.length → Ev (fun k => laws_sameInts.l0 k x0 x1 (i : Int)) (decide (x0.drop i = x1.drop i)) := by
      intro d
      induction d with
      | zero =>
        intro i hd hi
        rw [List.drop_eq_nil_of_le (show x0.length ≤ i by omega), List.drop_eq_nil_of_le (show x1.length ≤ i by omega)]
        refine ev_unroll ?_
        simp (disch := omega) only [laws_sameInts.l0, ↓if_neg, decide_true]
        exact Ev.now _
      | succ d ih =>
        intro i hd hi
        have h := ih (i + 1) (by omega) (by omega)
        rw [drop_rd (show i < x0.length by omega), drop_rd (show i < x1.length by omega)]
        by_cases he : rd x0 (i : Int) = rd x1 (i : Int)
        · refine ev_unroll ?_
          simp (disch := omega) only [laws_sameInts.l0, ↓if_pos, w64]
          simpa [he] using h
        · refine ev_unroll ?_
          simp (disch := omega) only [laws_sameInts.l0, ↓if_pos, ↓if_neg]
          rw [decide_eq_false (by intro h2; injection h2 with h3 h4; exact he h3)]
          exact Ev.now _
    have h := key _ 0 rfl (by omega)
    simp (disch := omega) only [laws_sameInts.f, ↓if_pos]
    simpa using h
  · have he : x0 ≠ x1 := fun h => hl (by rw [h])
    simp (disch := omega) only [laws_sameInts.f, ↓if_neg]
    rw [decide_eq_false he]
    exact Ev.now _
/-- Are all of a list's elements 0 or 1, and are there not too many? -/
def bitsVal (l : List Int) (n : Int) : Bool := l.all (fun x => decide (0 ≤ x ∧ x ≤ 1)) && decide ((l.length : Int) ≤ n)
theorem l1Bits_ev (x0 : List Int) (n : Int) (hn : x0.length ≤ 1048576) : Ev (fun k => spec_l1Bits.f k x0 n) (bitsVal x0 n) := by
  have key : ∀ (d i : Nat), x0.length - i = d → i ≤ x0.length → Ev (fun k => spec_l1Bits.l0 k x0 n (i : Int)) ((x0.drop i).all (fun x => decide (0 ≤ x ∧ x ≤ 1)) && decide ((x0.length : Int) ≤ n)) := by
    intro d
    induction d with
    | zero =>
      intro i hd hi
      refine ev_unroll ?_
      rw [List.drop_eq_nil_of_le (by omega)]
      simp (disch := omega) only [spec_l1Bits.l0, List.all_nil, Bool.true_and, ↓if_pos, ↓if_neg, if_pos, if_neg, ↓reduceIte, w64, in_t, in_f, l1In_t, l1In_f, Option.bind_some, Bool.not_true, Bool.not_false, Bool.false_eq_true, tmod_nonneg, tdiv_nonneg]
      exact Ev.now _
    | succ d ih =>
      intro i hd hi
      refine ev_unroll ?_
      rw [drop_rd (by omega)]
      have h := ih (i + 1) (by omega) (by omega)
      by_cases hb : 0 ≤ rd x0 (i : Int) ∧ rd x0 (i : Int) ≤ 1
      · simp (disch := omega) only [spec_l1Bits.l0, ↓if_pos, ↓if_neg, if_pos, if_neg, ↓reduceIte, w64, in_t, in_f, l1In_t, l1In_f, Option.bind_some, Bool.not_true, Bool.not_false, Bool.false_eq_true, tmod_nonneg, tdiv_nonneg]
        simpa [hb] using h
      · simp (disch := omega) only [spec_l1Bits.l0, ↓if_pos, ↓if_neg, if_pos, if_neg, ↓reduceIte, w64, in_t, in_f, l1In_t, l1In_f, Option.bind_some, Bool.not_true, Bool.not_false, Bool.false_eq_true, tmod_nonneg, tdiv_nonneg]
        simp only [List.all_cons, hb, decide_false, Bool.false_and]
        exact Ev.now _
  have h := key _ 0 rfl (by omega)
  simp only [spec_l1Bits.f, bitsVal]
  simpa using h
theorem bitsOk_ev (x0 : List Int) (n : Int) (hn : x0.length ≤ 1048576) : Ev (fun k => impl_bitsOk.f k x0 n) (bitsVal x0 n) := by
  have key : ∀ (d i : Nat), x0.length - i = d → i ≤ x0.length → Ev (fun k => impl_bitsOk.l0 k x0 n x0 (x0.length : Int) (i : Int)) ((x0.drop i).all (fun x => decide (0 ≤ x ∧ x ≤ 1)) && decide ((x0.length : Int) ≤ n)) := by
    intro d
    induction d with
    | zero =>
      intro i hd hi
      refine ev_unroll ?_
      rw [List.drop_eq_nil_of_le (by omega)]
      simp (disch := omega) only [impl_bitsOk.l0, List.all_nil, Bool.true_and, ↓if_pos, ↓if_neg, if_pos, if_neg, ↓reduceIte, w64, in_t, in_f, l1In_t, l1In_f, Option.bind_some, Bool.not_true, Bool.not_false, Bool.false_eq_true, tmod_nonneg, tdiv_nonneg]
      exact Ev.now _
    | succ d ih =>
      intro i hd hi
      refine ev_unroll ?_
      rw [drop_rd (by omega)]
      have h := ih (i + 1) (by omega) (by omega)
      by_cases h0 : rd x0 (i : Int) = 0
      · simp (disch := omega) only [impl_bitsOk.l0, ↓if_pos, ↓if_neg, if_pos, if_neg, ↓reduceIte, w64, in_t, in_f, l1In_t, l1In_f, Option.bind_some, Bool.not_true, Bool.not_false, Bool.false_eq_true, tmod_nonneg, tdiv_nonneg]
        simpa [h0] using h
      by_cases h1 : rd x0 (i : Int) = 1
      · simp (disch := omega) only [impl_bitsOk.l0, ↓if_pos, ↓if_neg, if_pos, if_neg, ↓reduceIte, w64, in_t, in_f, l1In_t, l1In_f, Option.bind_some, Bool.not_true, Bool.not_false, Bool.false_eq_true, tmod_nonneg, tdiv_nonneg]
        simpa [h1] using h
      · have hb : ¬ (0 ≤ rd x0 (i : Int) ∧ rd x0 (i : Int) ≤ 1) := by omega
        simp (disch := omega) only [impl_bitsOk.l0, ↓if_pos, ↓if_neg, if_pos, if_neg, ↓reduceIte, w64, in_t, in_f, l1In_t, l1In_f, Option.bind_some, Bool.not_true, Bool.not_false, Bool.false_eq_true, tmod_nonneg, tdiv_nonneg]
        simp only [List.all_cons, hb, decide_false, Bool.false_and]
        exact Ev.now _
  have h := key _ 0 rfl (by omega)
  simp only [impl_bitsOk.f, bitsVal]
  simpa using h
theorem bitsVal_le {l : List Int} {n : Int} (h : bitsVal l n = true) : (l.length : Int) ≤ n := by
  simp [bitsVal] at h; exact h.2
theorem bitsVal_mem {l : List Int} {n : Int} (h : bitsVal l n = true) : ∀ x ∈ l, 0 ≤ x ∧ x ≤ 1 := by
  simp only [bitsVal, Bool.and_eq_true, List.all_eq_true, decide_eq_true_eq] at h
  exact h.1
/-- The shifted key of the next bit. -/
def nextKey (K : Nat) : Nat := if K % 2 = 1 then K / 2 ^^^ 46080 else K / 2
theorem nextKey_lt {K : Nat} (h : K < 65536) : nextKey K < 65536 := by
  unfold nextKey
  split
  · exact Nat.xor_lt_two_pow (n := 16) (by omega) (by omega)
  · omega
/-- Bits stirred with a key. -/
def stir : Nat → List Int → List Int
  | _, [] => []
  | K, b :: l => Go.bits .xor .i64 b ((K % 2 : Nat) : Int) :: stir (nextKey K) l
theorem stir_length : ∀ (l : List Int) (K : Nat), (stir K l).length = l.length := by
  intro l
  induction l with
  | nil => intro K; rfl
  | cons b l ih => intro K; simp [stir, ih]
theorem implS_loop (x0 : List Int) (hn : x0.length ≤ 1048576) : ∀ (d : Nat) (i : Nat) (K : Nat) (out : List Int), x0.length - i = d → i ≤ x0.length → K < 65536 → out.length = i →
    Ev (fun k => impl_Stir15.l0 k (K : Int) out x0 (x0.length : Int) (i : Int)) (out ++ stir K (x0.drop i), true) := by
  intro d
  induction d with
  | zero =>
    intro i K out hd hi h1 ho
    rw [List.drop_eq_nil_of_le (by omega)]
    simp only [stir, List.append_nil]
    refine ev_unroll ?_
    simp (disch := omega) only [impl_Stir15.l0, ↓if_pos, ↓if_neg, if_pos, if_neg, ↓reduceIte, w64, in_t, in_f, l1In_t, l1In_f, Option.bind_some, Bool.not_true, Bool.not_false, Bool.false_eq_true, tmod_nonneg, tdiv_nonneg]
    exact Ev.now _
  | succ d ih =>
    intro i K out hd hi h1 ho
    have q := ih (i + 1) (nextKey K) (out ++ [Go.bits .xor .i64 (rd x0 i) ((K % 2 : Nat) : Int)]) (by omega) (by omega) (nextKey_lt h1) (by simp [ho])
    rw [drop_rd (by omega), stir]
    rw [List.append_assoc] at q
    have e1 : ((K : Int) % 2) = ((K % 2 : Nat) : Int) := by omega
    have e2 : ((K : Int) / 2) = ((K / 2 : Nat) : Int) := by omega
    by_cases hb : K % 2 = 1
    · have hx := xor64_nat (K / 2) 46080 (by omega) (by omega)
      have e3 : (nextKey K : Int) = Go.bits .xor .i64 ((K / 2 : Nat) : Int) 46080 := by
        unfold nextKey
        rw [if_pos hb]
        exact hx.symm
      rw [e3] at q
      refine ev_unroll ?_
      simp (disch := omega) only [impl_Stir15.l0, and1_64, ↓if_pos, ↓if_neg, if_pos, if_neg, ↓reduceIte, w64, in_t, in_f, l1In_t, l1In_f, Option.bind_some, Bool.not_true, Bool.not_false, Bool.false_eq_true, tmod_nonneg, tdiv_nonneg]
      rw [e1, e2]
      exact q
    · have e3 : nextKey K = K / 2 := by
        unfold nextKey
        rw [if_neg hb]
      rw [e3] at q ⊢
      refine ev_unroll ?_
      simp (disch := omega) only [impl_Stir15.l0, and1_64, ↓if_pos, ↓if_neg, if_pos, if_neg, ↓reduceIte, w64, in_t, in_f, l1In_t, l1In_f, Option.bind_some, Bool.not_true, Bool.not_false, Bool.false_eq_true, tmod_nonneg, tdiv_nonneg]
      rw [e1, e2]
      exact q
/-- May bits be stirred with a key? -/
def SOk (x0 : List Int) (a1 : Int) : Prop := bitsVal x0 320 = true ∧ 1 ≤ a1 ∧ a1 ≤ 65535
theorem implS_t (x0 : List Int) (a1 : Int) (hn : x0.length ≤ 1048576) (h : SOk x0 a1) : Ev (fun k => impl_Stir15.f k x0 a1) (stir a1.toNat x0, true) := by
  have hi := bitsOk_ev x0 320 hn
  obtain ⟨h1, h2, h3⟩ := h
  rw [h1] at hi
  have q := implS_loop x0 hn _ 0 a1.toNat [] rfl (by omega) (by omega) rfl
  rw [Int.toNat_of_nonneg (by omega)] at q
  simp only [impl_Stir15.f]
  refine Ev.bind hi ?_
  simp (disch := omega) only [↓if_pos, ↓if_neg, if_pos, if_neg, ↓reduceIte, w64, in_t, in_f, l1In_t, l1In_f, Option.bind_some, Bool.not_true, Bool.not_false, Bool.false_eq_true, tmod_nonneg, tdiv_nonneg]
  refine ev_unroll ?_
  simp (disch := omega) only [impl_Stir15.j0, ↓if_pos, ↓if_neg, if_pos, if_neg, ↓reduceIte, w64, in_t, in_f, l1In_t, l1In_f, Option.bind_some, Bool.not_true, Bool.not_false, Bool.false_eq_true, tmod_nonneg, tdiv_nonneg]
  simpa using q
theorem implS_f (x0 : List Int) (a1 : Int) (hn : x0.length ≤ 1048576) (h : ¬ SOk x0 a1) : Ev (fun k => impl_Stir15.f k x0 a1) ([], false) := by
  have hi := bitsOk_ev x0 320 hn
  simp only [impl_Stir15.f]
  refine Ev.bind hi ?_
  cases hb : bitsVal x0 320 with
  | false =>
    simp (disch := omega) only [↓if_pos, ↓if_neg, if_pos, if_neg, ↓reduceIte, w64, in_t, in_f, l1In_t, l1In_f, Option.bind_some, Bool.not_true, Bool.not_false, Bool.false_eq_true, tmod_nonneg, tdiv_nonneg]
    refine ev_unroll ?_
    simp (disch := omega) only [impl_Stir15.j0, ↓if_pos, ↓if_neg, if_pos, if_neg, ↓reduceIte, w64, in_t, in_f, l1In_t, l1In_f, Option.bind_some, Bool.not_true, Bool.not_false, Bool.false_eq_true, tmod_nonneg, tdiv_nonneg]
    exact Ev.now _
  | true =>
    have h2 : ¬ (1 ≤ a1 ∧ a1 ≤ 65535) := fun h2 => h ⟨hb, h2⟩
    simp (disch := omega) only [↓if_pos, ↓if_neg, if_pos, if_neg, ↓reduceIte, w64, in_t, in_f, l1In_t, l1In_f, Option.bind_some, Bool.not_true, Bool.not_false, Bool.false_eq_true, tmod_nonneg, tdiv_nonneg]
    refine ev_unroll ?_
    simp (disch := omega) only [impl_Stir15.j0, ↓if_pos, ↓if_neg, if_pos, if_neg, ↓reduceIte, w64, in_t, in_f, l1In_t, l1In_f, Option.bind_some, Bool.not_true, Bool.not_false, Bool.false_eq_true, tmod_nonneg, tdiv_nonneg]
    exact Ev.now _
theorem specS_loop (x0 : List Int) (hn : x0.length ≤ 1048576) : ∀ (d : Nat) (i : Nat) (K : Nat) (out : List Int), x0.length - i = d → i ≤ x0.length → K < 65536 → out.length = i →
    Ev (fun k => spec_Stir15.l0 k x0 (K : Int) out (i : Int)) (out ++ stir K (x0.drop i), true) := by
  intro d
  induction d with
  | zero =>
    intro i K out hd hi h1 ho
    rw [List.drop_eq_nil_of_le (by omega)]
    simp only [stir, List.append_nil]
    refine ev_unroll ?_
    simp (disch := omega) only [spec_Stir15.l0, ↓if_pos, ↓if_neg, if_pos, if_neg, ↓reduceIte, w64, in_t, in_f, l1In_t, l1In_f, Option.bind_some, Bool.not_true, Bool.not_false, Bool.false_eq_true, tmod_nonneg, tdiv_nonneg]
    exact Ev.now _
  | succ d ih =>
    intro i K out hd hi h1 ho
    have q := ih (i + 1) (nextKey K) (out ++ [Go.bits .xor .i64 (rd x0 i) ((K % 2 : Nat) : Int)]) (by omega) (by omega) (nextKey_lt h1) (by simp [ho])
    rw [drop_rd (by omega), stir]
    rw [List.append_assoc] at q
    have e1 : ((K : Int) % 2) = ((K % 2 : Nat) : Int) := by omega
    have e2 : ((K : Int) / 2) = ((K / 2 : Nat) : Int) := by omega
    by_cases hb : K % 2 = 1
    · have hx := xor64_nat (K / 2) 46080 (by omega) (by omega)
      have e3 : (nextKey K : Int) = Go.bits .xor .i64 ((K / 2 : Nat) : Int) 46080 := by
        unfold nextKey
        rw [if_pos hb]
        exact hx.symm
      rw [e3] at q
      refine ev_unroll ?_
      simp (disch := omega) only [spec_Stir15.l0, ↓if_pos, ↓if_neg, if_pos, if_neg, ↓reduceIte, w64, in_t, in_f, l1In_t, l1In_f, Option.bind_some, Bool.not_true, Bool.not_false, Bool.false_eq_true, tmod_nonneg, tdiv_nonneg]
      rw [e1, e2]
      exact q
    · have e3 : nextKey K = K / 2 := by
        unfold nextKey
        rw [if_neg hb]
      rw [e3] at q ⊢
      refine ev_unroll ?_
      simp (disch := omega) only [spec_Stir15.l0, ↓if_pos, ↓if_neg, if_pos, if_neg, ↓reduceIte, w64, in_t, in_f, l1In_t, l1In_f, Option.bind_some, Bool.not_true, Bool.not_false, Bool.false_eq_true, tmod_nonneg, tdiv_nonneg]
      rw [e1, e2]
      exact q
theorem specS_t (x0 : List Int) (a1 : Int) (hn : x0.length ≤ 1048576) (h : SOk x0 a1) : Ev (fun k => spec_Stir15.f k x0 a1) (stir a1.toNat x0, true) := by
  have hi := l1Bits_ev x0 320 hn
  obtain ⟨h1, h2, h3⟩ := h
  rw [h1] at hi
  have q := specS_loop x0 hn _ 0 a1.toNat [] rfl (by omega) (by omega) rfl
  rw [Int.toNat_of_nonneg (by omega)] at q
  simp only [spec_Stir15.f, Option.bind_some]
  refine Ev.bind hi ?_
  simp (disch := omega) only [↓if_pos, ↓if_neg, if_pos, if_neg, ↓reduceIte, w64, in_t, in_f, l1In_t, l1In_f, Option.bind_some, Bool.not_true, Bool.not_false, Bool.false_eq_true, tmod_nonneg, tdiv_nonneg]
  refine ev_unroll ?_
  simp (disch := omega) only [spec_Stir15.j0, ↓if_pos, ↓if_neg, if_pos, if_neg, ↓reduceIte, w64, in_t, in_f, l1In_t, l1In_f, Option.bind_some, Bool.not_true, Bool.not_false, Bool.false_eq_true, tmod_nonneg, tdiv_nonneg]
  simpa using q
theorem specS_f (x0 : List Int) (a1 : Int) (hn : x0.length ≤ 1048576) (h : ¬ SOk x0 a1) : Ev (fun k => spec_Stir15.f k x0 a1) ([], false) := by
  have hi := l1Bits_ev x0 320 hn
  simp only [spec_Stir15.f, Option.bind_some]
  refine Ev.bind hi ?_
  cases hb : bitsVal x0 320 with
  | false =>
    simp (disch := omega) only [↓if_pos, ↓if_neg, if_pos, if_neg, ↓reduceIte, w64, in_t, in_f, l1In_t, l1In_f, Option.bind_some, Bool.not_true, Bool.not_false, Bool.false_eq_true, tmod_nonneg, tdiv_nonneg]
    refine ev_unroll ?_
    simp (disch := omega) only [spec_Stir15.j0, ↓if_pos, ↓if_neg, if_pos, if_neg, ↓reduceIte, w64, in_t, in_f, l1In_t, l1In_f, Option.bind_some, Bool.not_true, Bool.not_false, Bool.false_eq_true, tmod_nonneg, tdiv_nonneg]
    exact Ev.now _
  | true =>
    have h2 : ¬ (1 ≤ a1 ∧ a1 ≤ 65535) := fun h2 => h ⟨hb, h2⟩
    simp (disch := omega) only [↓if_pos, ↓if_neg, if_pos, if_neg, ↓reduceIte, w64, in_t, in_f, l1In_t, l1In_f, Option.bind_some, Bool.not_true, Bool.not_false, Bool.false_eq_true, tmod_nonneg, tdiv_nonneg]
    refine ev_unroll ?_
    simp (disch := omega) only [spec_Stir15.j0, ↓if_pos, ↓if_neg, if_pos, if_neg, ↓reduceIte, w64, in_t, in_f, l1In_t, l1In_f, Option.bind_some, Bool.not_true, Bool.not_false, Bool.false_eq_true, tmod_nonneg, tdiv_nonneg]
    exact Ev.now _
/-- What stands in a list of m times n elements, read row by row, when it is told column by column. -/
def scat (m n : Nat) (x0 : List Int) : List Int := (List.range (m * n)).map fun (j : Nat) => rd x0 (((j % m) * n + j / m : Nat) : Int)
theorem scat_length (m n : Nat) (x0 : List Int) : (scat m n x0).length = m * n := by simp [scat]
theorem idx_lt {m n r c : Nat} (hr : r < m) (hc : c < n) : c * m + r < m * n := by
  have h1 : (c + 1) * m ≤ n * m := Nat.mul_le_mul_right m hc
  rw [Nat.add_mul, Nat.one_mul, Nat.mul_comm n m] at h1
  omega
theorem idx_mod {m r c : Nat} (hr : r < m) : (c * m + r) % m = r := by
  rw [Nat.mul_comm, Nat.mul_add_mod, Nat.mod_eq_of_lt hr]
theorem idx_div {m r c : Nat} (hr : r < m) : (c * m + r) / m = c := by
  rw [Nat.mul_comm, Nat.mul_add_div (by omega), Nat.div_eq_of_lt hr, Nat.add_zero]
theorem idx_of {m j : Nat} : (j / m) * m + j % m = j := by
  rw [Nat.mul_comm]; exact Nat.div_add_mod j m
theorem scat_get {m n : Nat} (x0 : List Int) {r c : Nat} (hr : r < m) (hc : c < n) : (scat m n x0).getD (c * m + r) 0 = rd x0 ((r * n + c : Nat) : Int) := by
  have h := idx_lt hr hc
  simp only [scat, List.getD_eq_getElem?_getD, List.getElem?_map, List.getElem?_range h, Option.map_some, Option.getD_some]
  rw [idx_mod hr, idx_div hr]
theorem scat_take {m n : Nat} (x0 : List Int) {r c : Nat} (hr : r < m) (hc : c < n) : (scat m n x0).take (c * m + r + 1) = (scat m n x0).take (c * m + r) ++ [rd x0 ((r * n + c : Nat) : Int)] := by
  rw [take_getD 0 (by rw [scat_length]; exact idx_lt hr hc), scat_get x0 hr hc]
/-- Up to which place the list is right, the places taken row by row. -/
def Upto (m n : Nat) (x0 : List Int) (r c : Nat) (y : List Int) : Prop :=
  y.length = m * n ∧ ∀ j, j < m * n → (j % m < r ∨ (j % m = r ∧ j / m < c)) → y.getD j 0 = (scat m n x0).getD j 0
theorem upto_start {m n : Nat} (x0 y : List Int) (h : y.length = m * n) : Upto m n x0 0 0 y := ⟨h, fun j _ hj => by
  rcases hj with hj | ⟨_, hj⟩
  · exact absurd hj (Nat.not_lt_zero _)
  · exact absurd hj (Nat.not_lt_zero _)⟩
theorem upto_step {m n : Nat} {x0 y : List Int} {r c : Nat} (hr : r < m) (hc : c < n) (h : Upto m n x0 r c y) : Upto m n x0 r (c + 1) (y.set (c * m + r) (rd x0 ((r * n + c : Nat) : Int))) := by
  refine ⟨by simp [h.1], fun j hj hw => ?_⟩
  by_cases e : j = c * m + r
  · subst e
    rw [scat_get x0 hr hc]
    have hl : c * m + r < y.length := by rw [h.1]; exact hj
    simp [hl]
  · have h2 := h.2 j hj (by
      rcases hw with hw | ⟨h3, h4⟩
      · exact Or.inl hw
      · by_cases h5 : j / m = c
        · exfalso
          apply e
          rw [← idx_of (m := m) (j := j), h3, h5]
        · exact Or.inr ⟨h3, by omega⟩)
    rw [← h2]
    have e2 : ¬ c * m + r = j := fun h3 => e h3.symm
    simp [List.getElem?_set, e2]
theorem upto_next {m n : Nat} {x0 y : List Int} {r : Nat} (hm : 0 < m) (h : Upto m n x0 r n y) : Upto m n x0 (r + 1) 0 y := by
  refine ⟨h.1, fun j hj hw => h.2 j hj ?_⟩
  have h1 : j / m < n := Nat.div_lt_of_lt_mul hj
  rcases hw with hw | ⟨_, hw⟩
  · rcases Nat.lt_or_ge (j % m) r with h2 | h2
    · exact Or.inl h2
    · exact Or.inr ⟨Nat.le_antisymm (Nat.le_of_lt_succ hw) h2, h1⟩
  · exact absurd hw (Nat.not_lt_zero _)
theorem upto_end {m n : Nat} {x0 y : List Int} (h : Upto m n x0 m 0 y) : y = scat m n x0 := by
  have hl : y.length = (scat m n x0).length := by rw [h.1, scat_length]
  refine List.ext_getElem hl fun j h1 h2 => ?_
  have h4 : j < m * n := by rw [← h.1]; exact h1
  have hm : 0 < m := by
    rcases Nat.eq_zero_or_pos m with h5 | h5
    · subst h5; simp at h4
    · exact h5
  have h3 := h.2 j h4 (Or.inl (Nat.mod_lt j hm))
  simpa [h1, h2] using h3
/-- May so many bits be woven in so many rows? -/
def WOk (x0 : List Int) (a1 : Int) : Prop := bitsVal x0 320 = true ∧ (1 ≤ a1 ∧ a1 ≤ 16) ∧ (x0.length : Int) % a1 = 0
theorem wok_parts {x0 : List Int} {a1 : Int} (h : WOk x0 a1) : ∃ m : Nat, a1 = (m : Int) ∧ 0 < m ∧ m ≤ 16 ∧ x0.length ≤ 320 ∧ x0.length = m * (x0.length / m) ∧ x0.length = (x0.length / m) * m ∧ (x0.length : Int) / (m : Int) = ((x0.length / m : Nat) : Int) ∧ x0.length / m ≤ x0.length := by
  obtain ⟨h1, h2, h3⟩ := h
  have hle := bitsVal_le h1
  obtain ⟨m, rfl⟩ := Int.eq_ofNat_of_zero_le (show 0 ≤ a1 by omega)
  have hdv : x0.length % m = 0 := by omega
  have hl : x0.length = m * (x0.length / m) := by
    have := Nat.div_add_mod x0.length m
    omega
  exact ⟨m, rfl, by omega, by omega, by omega, hl, by rw [Nat.mul_comm]; exact hl, by simp, Nat.div_le_self _ _⟩
theorem rows_t (x0 : List Int) (a1 : Int) (hn : x0.length ≤ 1048576) (h : WOk x0 a1) : Ev (fun k => spec_l15Rows.f k x0 a1) true := by
  have hs := l1Bits_ev x0 320 hn
  obtain ⟨h1, h2, h3⟩ := h
  rw [h1] at hs
  simp only [spec_l15Rows.f]
  refine Ev.bind hs ?_
  simp (disch := omega) only [↓if_pos, ↓if_neg, if_pos, if_neg, ↓reduceIte, w64, in_t, in_f, l1In_t, l1In_f, Option.bind_some, Bool.not_true, Bool.not_false, Bool.false_eq_true, tmod_nonneg, tdiv_nonneg]
  rw [h3]
  exact Ev.now _
theorem rows_f (x0 : List Int) (a1 : Int) (hn : x0.length ≤ 1048576) (h : ¬ WOk x0 a1) : Ev (fun k => spec_l15Rows.f k x0 a1) false := by
  have hs := l1Bits_ev x0 320 hn
  simp only [spec_l15Rows.f]
  refine Ev.bind hs ?_
  cases hb : bitsVal x0 320 with
  | false =>
    simp (disch := omega) only [↓if_pos, ↓if_neg, if_pos, if_neg, ↓reduceIte, w64, in_t, in_f, l1In_t, l1In_f, Option.bind_some, Bool.not_true, Bool.not_false, Bool.false_eq_true, tmod_nonneg, tdiv_nonneg]
    exact Ev.now _
  | true =>
    by_cases h2 : 1 ≤ a1 ∧ a1 ≤ 16
    · have hz : ((x0.length : Int) % a1 == 0) = false := by
        simp only [beq_eq_false_iff_ne, ne_eq]
        exact fun h3 => h ⟨hb, h2, h3⟩
      simp (disch := omega) only [↓if_pos, ↓if_neg, if_pos, if_neg, ↓reduceIte, w64, in_t, in_f, l1In_t, l1In_f, Option.bind_some, Bool.not_true, Bool.not_false, Bool.false_eq_true, tmod_nonneg, tdiv_nonneg]
      rw [hz]
      exact Ev.now _
    · simp (disch := omega) only [↓if_pos, ↓if_neg, if_pos, if_neg, ↓reduceIte, w64, in_t, in_f, l1In_t, l1In_f, Option.bind_some, Bool.not_true, Bool.not_false, Bool.false_eq_true, tmod_nonneg, tdiv_nonneg]
      exact Ev.now _
theorem specW_loop (x0 : List Int) (m n : Nat) (hm : 0 < m) (hm2 : m ≤ 16) (hl : x0.length = m * n) (hn : x0.length ≤ 320) : ∀ (d k : Nat), n - k = d → k ≤ n → Ev (fun q => spec_Weave15.l0 q x0 (m : Int) ((scat m n x0).take (k * m)) (n : Int) (k : Int)) (scat m n x0, true) := by
  have hln : n ≤ m * n := Nat.le_mul_of_pos_left n hm
  intro d
  induction d with
  | zero =>
    intro k hd hk
    have e : k = n := by omega
    subst e
    refine ev_unroll ?_
    simp (disch := omega) only [spec_Weave15.l0, ↓if_pos, ↓if_neg, if_pos, if_neg, ↓reduceIte, w64, in_t, in_f, l1In_t, l1In_f, Option.bind_some, Bool.not_true, Bool.not_false, Bool.false_eq_true, tmod_nonneg, tdiv_nonneg]
    rw [List.take_of_length_le (by rw [scat_length, Nat.mul_comm]; omega)]
    exact Ev.now _
  | succ d ih =>
    intro k hd hk
    refine ev_unroll ?_
    simp (disch := omega) only [spec_Weave15.l0, ↓if_pos, ↓if_neg, if_pos, if_neg, ↓reduceIte, w64, in_t, in_f, l1In_t, l1In_f, Option.bind_some, Bool.not_true, Bool.not_false, Bool.false_eq_true, tmod_nonneg, tdiv_nonneg]
    have inner : ∀ (e i : Nat), m - i = e → i ≤ m → Ev (fun q => spec_Weave15.l1 q x0 (m : Int) ((scat m n x0).take (k * m + i)) (n : Int) (k : Int) (i : Int)) (scat m n x0, true) := by
      intro e
      induction e with
      | zero =>
        intro i he hi
        have e2 : i = m := by omega
        subst e2
        refine ev_unroll ?_
        simp (disch := omega) only [spec_Weave15.l1, ↓if_pos, ↓if_neg, if_pos, if_neg, ↓reduceIte, w64, in_t, in_f, l1In_t, l1In_f, Option.bind_some, Bool.not_true, Bool.not_false, Bool.false_eq_true, tmod_nonneg, tdiv_nonneg]
        have h := ih (k + 1) (by omega) (by omega)
        rw [Nat.add_mul, Nat.one_mul] at h
        simpa using h
      | succ e ih2 =>
        intro i he hi
        have h1 : i * n + k < n * m := idx_lt (m := n) (n := m) (r := k) (c := i) (by omega) (by omega)
        have h2 : (0 : Int) ≤ (i : Int) * (n : Int) := by rw [← Int.natCast_mul]; omega
        have h3 : (i : Int) * (n : Int) + (k : Int) < (x0.length : Int) := by rw [← Int.natCast_mul, hl, Nat.mul_comm m n]; omega
        have h4 : ((scat m n x0).take (k * m + i)).length ≤ 320 := by
          have := scat_length m n x0
          have := List.length_take_le (k * m + i) (scat m n x0)
          rw [List.length_take]; omega
        refine ev_unroll ?_
        simp (disch := omega) only [spec_Weave15.l1, ↓if_pos, ↓if_neg, if_pos, if_neg, ↓reduceIte, w64, in_t, in_f, l1In_t, l1In_f, Option.bind_some, Bool.not_true, Bool.not_false, Bool.false_eq_true, tmod_nonneg, tdiv_nonneg]
        have h := ih2 (i + 1) (by omega) (by omega)
        rw [show k * m + (i + 1) = k * m + i + 1 from rfl, scat_take x0 (by omega) (by omega)] at h
        simpa using h
    have h := inner m 0 (by omega) (by omega)
    simpa using h
theorem specW_t (x0 : List Int) (a1 : Int) (hn : x0.length ≤ 1048576) (h : WOk x0 a1) : Ev (fun k => spec_Weave15.f k x0 a1) (scat a1.toNat (x0.length / a1.toNat) x0, true) := by
  have hr := rows_t x0 a1 hn h
  obtain ⟨m, rfl, hm, hm2, hl, hl1, hl2, hq, hq2⟩ := wok_parts h
  rw [Int.toNat_natCast]
  generalize x0.length / m = n at *
  simp only [spec_Weave15.f, Option.bind_some]
  refine Ev.bind hr ?_
  simp only [hq]
  simp (disch := omega) only [↓if_pos, ↓if_neg, if_pos, if_neg, ↓reduceIte, w64, in_t, in_f, l1In_t, l1In_f, Option.bind_some, Bool.not_true, Bool.not_false, Bool.false_eq_true, tmod_nonneg, tdiv_nonneg]
  have h := specW_loop x0 m n hm hm2 hl1 hl _ 0 rfl (by omega)
  simpa using h
theorem specW_f (x0 : List Int) (a1 : Int) (hn : x0.length ≤ 1048576) (h : ¬ WOk x0 a1) : Ev (fun k => spec_Weave15.f k x0 a1) ([], false) := by
  simp only [spec_Weave15.f, Option.bind_some]
  refine Ev.bind (rows_f x0 a1 hn h) ?_
  simp (disch := omega) only [↓if_pos, ↓if_neg, if_pos, if_neg, ↓reduceIte, w64, in_t, in_f, l1In_t, l1In_f, Option.bind_some, Bool.not_true, Bool.not_false, Bool.false_eq_true, tmod_nonneg, tdiv_nonneg]
  exact Ev.now _
theorem implW_loop (x0 : List Int) (m n : Nat) (hm : 0 < m) (hm2 : m ≤ 16) (hl : x0.length = m * n) (hn : x0.length ≤ 320) : ∀ (d r : Nat) (y : List Int), m - r = d → r ≤ m → Upto m n x0 r 0 y → Ev (fun q => impl_weave.l0 q x0 (m : Int) false y (n : Int) (m : Int) (r : Int)) (scat m n x0, true) := by
  have hln : n ≤ m * n := Nat.le_mul_of_pos_left n hm
  intro d
  induction d with
  | zero =>
    intro r y hd hr hy
    have e : r = m := by omega
    subst e
    refine ev_unroll ?_
    simp (disch := omega) only [impl_weave.l0, ↓if_pos, ↓if_neg, if_pos, if_neg, ↓reduceIte, w64, in_t, in_f, l1In_t, l1In_f, Option.bind_some, Bool.not_true, Bool.not_false, Bool.false_eq_true, tmod_nonneg, tdiv_nonneg]
    rw [upto_end hy]
    exact Ev.now _
  | succ d ih =>
    intro r y hd hr hy
    refine ev_unroll ?_
    simp (disch := omega) only [impl_weave.l0, ↓if_pos, ↓if_neg, if_pos, if_neg, ↓reduceIte, w64, in_t, in_f, l1In_t, l1In_f, Option.bind_some, Bool.not_true, Bool.not_false, Bool.false_eq_true, tmod_nonneg, tdiv_nonneg]
    have inner : ∀ (e c : Nat) (y : List Int), n - c = e → c ≤ n → Upto m n x0 r c y → Ev (fun q => impl_weave.l1 q x0 (m : Int) false y (n : Int) (r : Int) (m : Int) (r : Int) (n : Int) (c : Int)) (scat m n x0, true) := by
      intro e
      induction e with
      | zero =>
        intro c y he hc hy
        have e2 : c = n := by omega
        subst e2
        refine ev_unroll ?_
        simp (disch := omega) only [impl_weave.l1, ↓if_pos, ↓if_neg, if_pos, if_neg, ↓reduceIte, w64, in_t, in_f, l1In_t, l1In_f, Option.bind_some, Bool.not_true, Bool.not_false, Bool.false_eq_true, tmod_nonneg, tdiv_nonneg]
        have h := ih (r + 1) y (by omega) (by omega) (upto_next hm hy)
        simpa using h
      | succ e ih2 =>
        intro c y he hc hy
        have h1 : r * n + c < n * m := idx_lt (m := n) (n := m) (r := c) (c := r) (by omega) (by omega)
        have h2 : (0 : Int) ≤ (r : Int) * (n : Int) := by rw [← Int.natCast_mul]; omega
        have h3 : (r : Int) * (n : Int) + (c : Int) < (x0.length : Int) := by rw [← Int.natCast_mul, hl, Nat.mul_comm m n]; omega
        have h4 : c * m + r < m * n := idx_lt (by omega) (by omega)
        have h5 : (0 : Int) ≤ (c : Int) * (m : Int) := by rw [← Int.natCast_mul]; omega
        have h6 : (c : Int) * (m : Int) + (r : Int) < (y.length : Int) := by rw [← Int.natCast_mul, hy.1]; omega
        have h7 : (y.length : Int) ≤ 320 := by rw [hy.1]; omega
        refine ev_unroll ?_
        simp (disch := omega) only [impl_weave.l1, ↓if_pos, ↓if_neg, if_pos, if_neg, ↓reduceIte, w64, in_t, in_f, l1In_t, l1In_f, Option.bind_some, Bool.not_true, Bool.not_false, Bool.false_eq_true, tmod_nonneg, tdiv_nonneg]
        have h := ih2 (c + 1) _ (by omega) (by omega) (upto_step (by omega) (by omega) hy)
        have e3 : ((c : Int) * (m : Int) + (r : Int)).toNat = c * m + r := by rw [← Int.natCast_mul]; omega
        rw [e3]
        simpa using h
    have h := inner n 0 y (by omega) (by omega) hy
    simpa using h
theorem weave_t (x0 : List Int) (a1 : Int) (hn : x0.length ≤ 1048576) (h : WOk x0 a1) : Ev (fun k => impl_weave.f k x0 a1 false) (scat a1.toNat (x0.length / a1.toNat) x0, true) := by
  have hi := bitsOk_ev x0 320 hn
  have hz := h.2.2
  rw [h.1] at hi
  obtain ⟨m, rfl, hm, hm2, hl, hl1, hl2, hq, hq2⟩ := wok_parts h
  rw [Int.toNat_natCast]
  generalize x0.length / m = n at *
  simp only [impl_weave.f]
  refine Ev.bind hi ?_
  simp (disch := omega) only [↓if_pos, ↓if_neg, if_pos, if_neg, ↓reduceIte, w64, in_t, in_f, l1In_t, l1In_f, Option.bind_some, Bool.not_true, Bool.not_false, Bool.false_eq_true, tmod_nonneg, tdiv_nonneg]
  refine ev_unroll ?_
  simp only [hz, bne_self_eq_false, impl_weave.j0, hq]
  simp (disch := omega) only [↓if_pos, ↓if_neg, if_pos, if_neg, ↓reduceIte, w64, in_t, in_f, l1In_t, l1In_f, Option.bind_some, Bool.not_true, Bool.not_false, Bool.false_eq_true, tmod_nonneg, tdiv_nonneg]
  have h := implW_loop x0 m n hm hm2 hl1 hl _ 0 _ rfl (by omega) (upto_start x0 (List.replicate x0.length 0) (by simpa using hl1))
  simpa using h
theorem implU_loop (x0 : List Int) (m n : Nat) (hm : 0 < m) (hm2 : m ≤ 16) (hl : x0.length = n * m) (hn : x0.length ≤ 320) : ∀ (d r : Nat) (y : List Int), m - r = d → r ≤ m → y.length = n * m → y.take (r * n) = (scat n m x0).take (r * n) → Ev (fun q => impl_weave.l0 q x0 (m : Int) true y (n : Int) (m : Int) (r : Int)) (scat n m x0, true) := by
  have hln : n ≤ n * m := Nat.le_mul_of_pos_right n hm
  intro d
  induction d with
  | zero =>
    intro r y hd hr hy hy2
    have e : r = m := by omega
    subst e
    refine ev_unroll ?_
    simp (disch := omega) only [impl_weave.l0, ↓if_pos, ↓if_neg, if_pos, if_neg, ↓reduceIte, w64, in_t, in_f, l1In_t, l1In_f, Option.bind_some, Bool.not_true, Bool.not_false, Bool.false_eq_true, tmod_nonneg, tdiv_nonneg]
    rw [List.take_of_length_le (by rw [hy, Nat.mul_comm]; exact Nat.le_refl _), List.take_of_length_le (by rw [scat_length, Nat.mul_comm]; exact Nat.le_refl _)] at hy2
    rw [hy2]
    exact Ev.now _
  | succ d ih =>
    intro r y hd hr hy hy2
    refine ev_unroll ?_
    simp (disch := omega) only [impl_weave.l0, ↓if_pos, ↓if_neg, if_pos, if_neg, ↓reduceIte, w64, in_t, in_f, l1In_t, l1In_f, Option.bind_some, Bool.not_true, Bool.not_false, Bool.false_eq_true, tmod_nonneg, tdiv_nonneg]
    have inner : ∀ (e c : Nat) (y : List Int), n - c = e → c ≤ n → y.length = n * m → y.take (r * n + c) = (scat n m x0).take (r * n + c) → Ev (fun q => impl_weave.l1 q x0 (m : Int) true y (n : Int) (r : Int) (m : Int) (r : Int) (n : Int) (c : Int)) (scat n m x0, true) := by
      intro e
      induction e with
      | zero =>
        intro c y he hc hy hy2
        have e2 : c = n := by omega
        subst e2
        refine ev_unroll ?_
        simp (disch := omega) only [impl_weave.l1, ↓if_pos, ↓if_neg, if_pos, if_neg, ↓reduceIte, w64, in_t, in_f, l1In_t, l1In_f, Option.bind_some, Bool.not_true, Bool.not_false, Bool.false_eq_true, tmod_nonneg, tdiv_nonneg]
        have h := ih (r + 1) y (by omega) (by omega) hy (by rw [Nat.add_mul, Nat.one_mul]; exact hy2)
        simpa using h
      | succ e ih2 =>
        intro c y he hc hy hy2
        have h1 : r * n + c < n * m := idx_lt (m := n) (n := m) (r := c) (c := r) (by omega) (by omega)
        have h2 : (0 : Int) ≤ (r : Int) * (n : Int) := by rw [← Int.natCast_mul]; omega
        have h3 : (r : Int) * (n : Int) + (c : Int) < (y.length : Int) := by rw [← Int.natCast_mul, hy]; omega
        have h4 : c * m + r < m * n := idx_lt (by omega) (by omega)
        have h5 : (0 : Int) ≤ (c : Int) * (m : Int) := by rw [← Int.natCast_mul]; omega
        have h6 : (c : Int) * (m : Int) + (r : Int) < (x0.length : Int) := by rw [← Int.natCast_mul, hl, Nat.mul_comm n m]; omega
        have h7 : (y.length : Int) ≤ 320 := by rw [hy]; omega
        refine ev_unroll ?_
        simp (disch := omega) only [impl_weave.l1, ↓if_pos, ↓if_neg, if_pos, if_neg, ↓reduceIte, w64, in_t, in_f, l1In_t, l1In_f, Option.bind_some, Bool.not_true, Bool.not_false, Bool.false_eq_true, tmod_nonneg, tdiv_nonneg]
        have h8 := take_set_succ (l := y) (m := scat n m x0) 0 (by rw [hy, scat_length]) hy2 (by rw [scat_length]; exact h1)
        rw [scat_get x0 (by omega) (by omega)] at h8
        have h := ih2 (c + 1) _ (by omega) (by omega) (by simp [hy]) h8
        have e3 : ((r : Int) * (n : Int) + (c : Int)).toNat = r * n + c := by rw [← Int.natCast_mul]; omega
        rw [e3]
        simpa using h
    have h := inner n 0 y (by omega) (by omega) hy hy2
    simpa using h
theorem unweave_t (x0 : List Int) (a1 : Int) (hn : x0.length ≤ 1048576) (h : WOk x0 a1) : Ev (fun k => impl_weave.f k x0 a1 true) (scat (x0.length / a1.toNat) a1.toNat x0, true) := by
  have hi := bitsOk_ev x0 320 hn
  have hz := h.2.2
  rw [h.1] at hi
  obtain ⟨m, rfl, hm, hm2, hl, hl1, hl2, hq, hq2⟩ := wok_parts h
  rw [Int.toNat_natCast]
  generalize x0.length / m = n at *
  simp only [impl_weave.f]
  refine Ev.bind hi ?_
  simp (disch := omega) only [↓if_pos, ↓if_neg, if_pos, if_neg, ↓reduceIte, w64, in_t, in_f, l1In_t, l1In_f, Option.bind_some, Bool.not_true, Bool.not_false, Bool.false_eq_true, tmod_nonneg, tdiv_nonneg]
  refine ev_unroll ?_
  simp only [hz, bne_self_eq_false, impl_weave.j0, hq]
  simp (disch := omega) only [↓if_pos, ↓if_neg, if_pos, if_neg, ↓reduceIte, w64, in_t, in_f, l1In_t, l1In_f, Option.bind_some, Bool.not_true, Bool.not_false, Bool.false_eq_true, tmod_nonneg, tdiv_nonneg]
  have h := implU_loop x0 m n hm hm2 hl2 hl _ 0 (List.replicate x0.length 0) rfl (by omega) (by simpa using hl2) (by simp)
  simpa using h
theorem weave_f (x0 : List Int) (a1 : Int) (back : Bool) (hn : x0.length ≤ 1048576) (h : ¬ WOk x0 a1) : Ev (fun k => impl_weave.f k x0 a1 back) ([], false) := by
  have hi := bitsOk_ev x0 320 hn
  simp only [impl_weave.f]
  refine Ev.bind hi ?_
  cases hb : bitsVal x0 320 with
  | false =>
    simp (disch := omega) only [↓if_pos, ↓if_neg, if_pos, if_neg, ↓reduceIte, w64, in_t, in_f, l1In_t, l1In_f, Option.bind_some, Bool.not_true, Bool.not_false, Bool.false_eq_true, tmod_nonneg, tdiv_nonneg]
    refine ev_unroll ?_
    simp (disch := omega) only [impl_weave.j0, ↓if_pos, ↓if_neg, if_pos, if_neg, ↓reduceIte, w64, in_t, in_f, l1In_t, l1In_f, Option.bind_some, Bool.not_true, Bool.not_false, Bool.false_eq_true, tmod_nonneg, tdiv_nonneg]
    exact Ev.now _
  | true =>
    by_cases h2 : 1 ≤ a1 ∧ a1 ≤ 16
    · have hz2 : ((x0.length : Int) % a1 != 0) = true := by
        simp only [bne_iff_ne, ne_eq]
        exact fun h3 => h ⟨hb, h2, h3⟩
      simp (disch := omega) only [↓if_pos, ↓if_neg, if_pos, if_neg, ↓reduceIte, w64, in_t, in_f, l1In_t, l1In_f, Option.bind_some, Bool.not_true, Bool.not_false, Bool.false_eq_true, tmod_nonneg, tdiv_nonneg]
      refine ev_unroll ?_
      simp only [hz2, impl_weave.j0]
      simp (disch := omega) only [↓if_pos, ↓if_neg, if_pos, if_neg, ↓reduceIte, w64, in_t, in_f, l1In_t, l1In_f, Option.bind_some, Bool.not_true, Bool.not_false, Bool.false_eq_true, tmod_nonneg, tdiv_nonneg]
      exact Ev.now _
    · simp (disch := omega) only [↓if_pos, ↓if_neg, if_pos, if_neg, ↓reduceIte, w64, in_t, in_f, l1In_t, l1In_f, Option.bind_some, Bool.not_true, Bool.not_false, Bool.false_eq_true, tmod_nonneg, tdiv_nonneg]
      refine ev_unroll ?_
      simp (disch := omega) only [impl_weave.j0, ↓if_pos, ↓if_neg, if_pos, if_neg, ↓reduceIte, w64, in_t, in_f, l1In_t, l1In_f, Option.bind_some, Bool.not_true, Bool.not_false, Bool.false_eq_true, tmod_nonneg, tdiv_nonneg]
      exact Ev.now _
theorem bit_xor {b c : Int} (hb : 0 ≤ b ∧ b ≤ 1) (hc : 0 ≤ c ∧ c ≤ 1) : Go.bits .xor .i64 b c = (b + c) % 2 := by
  have h1 : b = 0 ∨ b = 1 := by omega
  have h2 : c = 0 ∨ c = 1 := by omega
  rcases h1 with rfl | rfl <;> rcases h2 with rfl | rfl <;> decide +kernel
def Bits (l : List Int) : Prop := ∀ x ∈ l, 0 ≤ x ∧ x ≤ 1
theorem stir_bits : ∀ (l : List Int) (K : Nat), Bits l → Bits (stir K l) := by
  intro l
  induction l with
  | nil => intro K h x hx; simp [stir] at hx
  | cons b l ih =>
    intro K h x hx
    simp only [stir, List.mem_cons] at hx
    rcases hx with rfl | hx
    · rw [bit_xor (h b (by simp)) (by omega)]; omega
    · exact ih (nextKey K) (fun y hy => h y (by simp [hy])) x hx
theorem stir_back : ∀ (l : List Int) (K : Nat), Bits l → stir K (stir K l) = l := by
  intro l
  induction l with
  | nil => intro K h; rfl
  | cons b l ih =>
    intro K h
    have hb := h b (by simp)
    have h1 := bit_xor hb (c := ((K % 2 : Nat) : Int)) (by omega)
    simp only [stir]
    rw [h1, bit_xor (by omega) (by omega), ih (nextKey K) (fun y hy => h y (by simp [hy]))]
    congr 1
    omega
theorem xor_mod2 (x y : Nat) : (x ^^^ y) % 2 = (x + y) % 2 := by
  have h : decide ((x ^^^ y) % 2 = 1) = (decide (x % 2 = 1) ^^ decide (y % 2 = 1)) := by
    rw [← Nat.testBit_zero, ← Nat.testBit_zero, ← Nat.testBit_zero, Nat.testBit_xor]
  rcases Nat.mod_two_eq_zero_or_one x with a | a <;> rcases Nat.mod_two_eq_zero_or_one y with b | b <;> rcases Nat.mod_two_eq_zero_or_one (x ^^^ y) with c | c <;> rw [a, b, c] at h <;> first | omega | simp at h
theorem xor_next {x y m : Nat} (h : x ^^^ y = 2 ^ (m + 1)) : x % 2 = y % 2 ∧ nextKey x ^^^ nextKey y = 2 ^ m := by
  have h1 : (x ^^^ y) % 2 = 0 := by rw [h, Nat.pow_succ]; omega
  rw [xor_mod2] at h1
  have h2 : x % 2 = y % 2 := by omega
  have h3 : (x ^^^ y) / 2 = 2 ^ m := by rw [h, Nat.pow_succ]; omega
  rw [Nat.xor_div_two] at h3
  refine ⟨h2, ?_⟩
  unfold nextKey
  by_cases hb : y % 2 = 1
  · rw [if_pos (by omega), if_pos hb, ← h3]
    apply Nat.eq_of_testBit_eq
    intro i
    simp only [Nat.testBit_xor]
    cases (x / 2).testBit i <;> cases (y / 2).testBit i <;> cases Nat.testBit 46080 i <;> rfl
  · rw [if_neg (by omega), if_neg hb]
    exact h3
/-- By a key of one other bit the bits do not come back. -/
theorem stir_other : ∀ (m : Nat) (l : List Int) (x y : Nat), Bits l → m < l.length → x ^^^ y = 2 ^ m → stir y (stir x l) ≠ l := by
  intro m
  induction m with
  | zero =>
    intro l x y hl hm hx he
    cases l with
    | nil => simp at hm
    | cons b l =>
      have h1 : (x ^^^ y) % 2 = 1 := by rw [hx]
      rw [xor_mod2] at h1
      have hb := hl b (by simp)
      simp only [stir] at he
      injection he with h2 h3
      rw [bit_xor hb (by omega), bit_xor (by omega) (by omega)] at h2
      omega
  | succ m ih =>
    intro l x y hl hm hx he
    cases l with
    | nil => simp at hm
    | cons b l =>
      obtain ⟨h1, h2⟩ := xor_next hx
      simp only [stir] at he
      injection he with h3 h4
      exact ih l (nextKey x) (nextKey y) (fun z hz => hl z (by simp [hz])) (by simpa using hm) h2 h4
theorem bits_of_ok {x0 : List Int} {n : Int} (h : bitsVal x0 n = true) : Bits x0 := bitsVal_mem h
theorem ok_of_bits {l : List Int} {n : Int} (h : Bits l) (hl : (l.length : Int) ≤ n) : bitsVal l n = true := by
  simp only [bitsVal, Bool.and_eq_true, List.all_eq_true, decide_eq_true_eq]
  exact ⟨h, hl⟩
theorem scat_back (m n : Nat) (x0 : List Int) (hl : x0.length = m * n) : scat n m (scat m n x0) = x0 := by
  have hl1 : (scat n m (scat m n x0)).length = x0.length := by rw [scat_length, hl, Nat.mul_comm]
  refine List.ext_getElem hl1 fun j h1 h2 => ?_
  have hn : 0 < n := by
    rcases Nat.eq_zero_or_pos n with h5 | h5
    · subst h5; simp at hl; rw [hl] at h2; exact absurd h2 (by simp)
    · exact h5
  have hr : j % n < n := Nat.mod_lt j hn
  have hc : j / n < m := Nat.div_lt_of_lt_mul (by rw [Nat.mul_comm, ← hl]; exact h2)
  have e1 := scat_get (m := n) (n := m) (scat m n x0) hr hc
  have e2 := scat_get (m := m) (n := n) x0 hc hr
  rw [rd_nat, e2, rd_nat, idx_of] at e1
  rw [List.getD_eq_getElem?_getD, List.getD_eq_getElem?_getD, List.getElem?_eq_getElem h1, List.getElem?_eq_getElem h2] at e1
  exact e1
theorem scat_bits {m n : Nat} {x0 : List Int} (hl : x0.length = m * n) (h : Bits x0) : Bits (scat m n x0) := by
  intro x hx
  simp only [scat, List.mem_map, List.mem_range] at hx
  obtain ⟨j, hj, rfl⟩ := hx
  have hm : 0 < m := by
    rcases Nat.eq_zero_or_pos m with h5 | h5
    · subst h5; simp at hj
    · exact h5
  have hi := idx_lt (m := n) (n := m) (r := j / m) (c := j % m) (Nat.div_lt_of_lt_mul hj) (Nat.mod_lt j hm)
  refine h _ (rd_mem (Int.natCast_nonneg _) ?_)
  rw [hl, Nat.mul_comm m n]
  omega
theorem drawBits_ev (b : List Int) (hb : b.length ≤ 1048576) (n : Int) (hn : n ≤ 1000) : ∀ (d : Nat) (x5 : List Int) (x6 i h : Int), n - x6 ≤ d → 0 ≤ x6 → d + x5.length ≤ 1000 → 0 ≤ i → i ≤ 1048576 →
    ∃ l i' h', l.length ≤ 1000 ∧ 0 ≤ i' ∧ i' ≤ 1048576 ∧ Ev (fun k => spec_l15DrawBits.l0 k n x5 x6 b i h) (l, i', h') := by
  intro d
  induction d with
  | zero =>
    intro x5 x6 i h hd hx hl h0 h1
    refine ⟨x5, i, h, by omega, h0, h1, ev_unroll ?_⟩
    simp (disch := omega) only [spec_l15DrawBits.l0, ↓if_pos, ↓if_neg, if_pos, if_neg, ↓reduceIte, w64, in_t, in_f, l1In_t, l1In_f, Option.bind_some, Bool.not_true, Bool.not_false, Bool.false_eq_true, tmod_nonneg, tdiv_nonneg]
    exact Ev.now _
  | succ d ih =>
    intro x5 x6 i h hd hx hl h0 h1
    by_cases hlt : x6 < n
    · obtain ⟨v, i1, s1, e1, p1, p2, p3, p4, p5⟩ := l1Below_some b i h 2 hb h0 h1
      obtain ⟨l, i2, s2, o1, o2, o3, q⟩ := ih (x5 ++ [v]) (x6 + 1) i1 s1 (by omega) (by omega) (by simp; omega) p4 p5
      refine ⟨l, i2, s2, o1, o2, o3, ev_unroll ?_⟩
      simp (disch := omega) only [spec_l15DrawBits.l0, e1, ↓if_pos, ↓if_neg, if_pos, if_neg, ↓reduceIte, w64, in_t, in_f, l1In_t, l1In_f, Option.bind_some, Bool.not_true, Bool.not_false, Bool.false_eq_true, tmod_nonneg, tdiv_nonneg]
      exact q
    · refine ⟨x5, i, h, by omega, h0, h1, ev_unroll ?_⟩
      simp (disch := omega) only [spec_l15DrawBits.l0, ↓if_pos, ↓if_neg, if_pos, if_neg, ↓reduceIte, w64, in_t, in_f, l1In_t, l1In_f, Option.bind_some, Bool.not_true, Bool.not_false, Bool.false_eq_true, tmod_nonneg, tdiv_nonneg]
      exact Ev.now _
theorem drawBitsF_ev (b : List Int) (hb : b.length ≤ 1048576) (n i h : Int) (hn : n ≤ 1000) (h0 : 0 ≤ i) (h1 : i ≤ 1048576) :
    ∃ l i' h', l.length ≤ 1000 ∧ 0 ≤ i' ∧ i' ≤ 1048576 ∧ Ev (fun k => spec_l15DrawBits.f k b i h n) (l, i', h') := by
  obtain ⟨l, i', h', o1, o2, o3, q⟩ := drawBits_ev b hb n hn 1000 [] 0 i h (by omega) (by omega) (by simp) h0 h1
  exact ⟨l, i', h', o1, o2, o3, q⟩
theorem size_some (l0 : List Int) (a1 : Int) (hb : l0.length ≤ 1048576) (h0 : 0 ≤ a1) (h1 : a1 ≤ 1000) : ∃ v, spec_l1Size.f l0 a1 = some v ∧ 0 ≤ v ∧ v ≤ a1 := by
  unfold spec_l1Size.f
  by_cases h : 2 + (l0.length : Int) / 20 > a1
  · simp (disch := omega) only [↓if_pos, ↓if_neg, if_pos, if_neg, ↓reduceIte, w64, in_t, in_f, l1In_t, l1In_f, Option.bind_some, Bool.not_true, Bool.not_false, Bool.false_eq_true, tmod_nonneg, tdiv_nonneg]
    exact ⟨_, rfl, h0, by omega⟩
  · simp (disch := omega) only [↓if_pos, ↓if_neg, if_pos, if_neg, ↓reduceIte, w64, in_t, in_f, l1In_t, l1In_f, Option.bind_some, Bool.not_true, Bool.not_false, Bool.false_eq_true, tmod_nonneg, tdiv_nonneg]
    exact ⟨_, rfl, by omega, by omega⟩
theorem any2 (b : List Int) (hb : b.length ≤ 1048576) (x5 : List Int) (hl : x5.length ≤ 2000) (i h : Int) (h0 : 0 ≤ i) (h1 : i ≤ 1048576) : ∃ l i' h', l.length ≤ 2000 ∧ 0 ≤ i' ∧ i' ≤ 1048576 ∧ Ev (fun k => spec_l15DrawAny.j2 k x5 b i h) (l, i', h') := by
  obtain ⟨t, i1, s1, e1, p1, p2⟩ := l1Once_some b i h 60 hb h0 h1
  cases t with
  | true =>
    obtain ⟨v, i2, s2, e2, q1, q2, q3, q4, q5⟩ := l1Below_some b i1 s1 2 hb p1 p2
    have q6 := q2 (by omega)
    refine ⟨List.replicate (320 + 2 * v).toNat 0, i2, s2, by simp; omega, q4, q5, ev_unroll ?_⟩
    simp (disch := omega) only [spec_l15DrawAny.j2, e1, e2, ↓if_pos, ↓if_neg, if_pos, if_neg, ↓reduceIte, w64, in_t, in_f, l1In_t, l1In_f, Option.bind_some, Bool.not_true, Bool.not_false, Bool.false_eq_true, tmod_nonneg, tdiv_nonneg]
    exact Ev.now _
  | false =>
    refine ⟨x5, i1, s1, hl, p1, p2, ev_unroll ?_⟩
    simp (disch := omega) only [spec_l15DrawAny.j2, e1, ↓if_pos, ↓if_neg, if_pos, if_neg, ↓reduceIte, w64, in_t, in_f, l1In_t, l1In_f, Option.bind_some, Bool.not_true, Bool.not_false, Bool.false_eq_true, tmod_nonneg, tdiv_nonneg]
    exact Ev.now _
theorem any1 (b : List Int) (hb : b.length ≤ 1048576) (x5 : List Int) (hl : x5.length ≤ 1500) (i h : Int) (h0 : 0 ≤ i) (h1 : i ≤ 1048576) : ∃ l i' h', l.length ≤ 2000 ∧ 0 ≤ i' ∧ i' ≤ 1048576 ∧ Ev (fun k => spec_l15DrawAny.j1 k x5 b i h) (l, i', h') := by
  obtain ⟨t, i1, s1, e1, p1, p2⟩ := l1Once_some b i h 30 hb h0 h1
  cases t with
  | true =>
    obtain ⟨v, i2, s2, e2, q1, q2, q3⟩ := l1PickInt_some b i1 s1 [2, (-1)] (by simp) hb p1 p2
    obtain ⟨l, i3, s3, o1, o2, o3, q⟩ := any2 b hb (x5 ++ [v]) (by simp; omega) i2 s2 q2 q3
    refine ⟨l, i3, s3, o1, o2, o3, ev_unroll ?_⟩
    simp (disch := omega) only [spec_l15DrawAny.j1, e1, e2, ↓if_pos, ↓if_neg, if_pos, if_neg, ↓reduceIte, w64, in_t, in_f, l1In_t, l1In_f, Option.bind_some, Bool.not_true, Bool.not_false, Bool.false_eq_true, tmod_nonneg, tdiv_nonneg]
    exact q
  | false =>
    obtain ⟨l, i3, s3, o1, o2, o3, q⟩ := any2 b hb x5 (by omega) i1 s1 p1 p2
    refine ⟨l, i3, s3, o1, o2, o3, ev_unroll ?_⟩
    simp (disch := omega) only [spec_l15DrawAny.j1, e1, ↓if_pos, ↓if_neg, if_pos, if_neg, ↓reduceIte, w64, in_t, in_f, l1In_t, l1In_f, Option.bind_some, Bool.not_true, Bool.not_false, Bool.false_eq_true, tmod_nonneg, tdiv_nonneg]
    exact q
theorem any0 (b : List Int) (hb : b.length ≤ 1048576) (x5 : List Int) (hl : x5.length ≤ 1000) (c : Bool) (i h : Int) (h0 : 0 ≤ i) (h1 : i ≤ 1048576) : ∃ l i' h', l.length ≤ 2000 ∧ 0 ≤ i' ∧ i' ≤ 1048576 ∧ Ev (fun k => spec_l15DrawAny.j0 k x5 c b i h) (l, i', h') := by
  cases c with
  | true =>
    obtain ⟨l, i3, s3, o1, o2, o3, q⟩ := any1 b hb (x5 ++ [1]) (by simp; omega) i h h0 h1
    refine ⟨l, i3, s3, o1, o2, o3, ev_unroll ?_⟩
    simp (disch := omega) only [spec_l15DrawAny.j0, ↓if_pos, ↓if_neg, if_pos, if_neg, ↓reduceIte, w64, in_t, in_f, l1In_t, l1In_f, Option.bind_some, Bool.not_true, Bool.not_false, Bool.false_eq_true, tmod_nonneg, tdiv_nonneg]
    exact q
  | false =>
    obtain ⟨l, i3, s3, o1, o2, o3, q⟩ := any1 b hb x5 (by omega) i h h0 h1
    refine ⟨l, i3, s3, o1, o2, o3, ev_unroll ?_⟩
    simp (disch := omega) only [spec_l15DrawAny.j0, ↓if_pos, ↓if_neg, if_pos, if_neg, ↓reduceIte, w64, in_t, in_f, l1In_t, l1In_f, Option.bind_some, Bool.not_true, Bool.not_false, Bool.false_eq_true, tmod_nonneg, tdiv_nonneg]
    exact q
theorem any_ev (b l1 : List Int) (hb : b.length ≤ 1048576) (hb1 : l1.length ≤ 1048576) (i h : Int) (h0 : 0 ≤ i) (h1 : i ≤ 1048576) : ∃ l i' h', l.length ≤ 2000 ∧ 0 ≤ i' ∧ i' ≤ 1048576 ∧ Ev (fun k => spec_l15DrawAny.f k b i h l1) (l, i', h') := by
  obtain ⟨z, e0, z0, z1⟩ := size_some l1 40 hb1 (by omega) (by omega)
  obtain ⟨v, i1, s1, e1, p1, p2, p3, p4, p5⟩ := l1Below_some b i h (2 * z) hb h0 h1
  have hv : v ≤ 100 := by
    by_cases hz : 0 < 2 * z
    · have := p2 hz; omega
    · have := p3 (by omega); omega
  obtain ⟨l, i2, s2, o1, o2, o3, q⟩ := drawBitsF_ev b hb v i1 s1 (by omega) p4 p5
  obtain ⟨t, i3, s3, e3, r1, r2⟩ := l1Once_some b i2 s2 3 hb o2 o3
  obtain ⟨l2, i4, s4, t1, t2, t3, q2⟩ := any0 b hb l o1 (if t = true then ((l.length : Int) % 2 == 1) else false) i3 s3 r1 r2
  refine ⟨l2, i4, s4, t1, t2, t3, ?_⟩
  simp only [spec_l15DrawAny.f, e0, Option.bind_some]
  rw [w64 (x := 2 * z) (by omega) (by omega)]
  simp only [e1, Option.bind_some]
  refine Ev.bind q ?_
  simp only [e3, Option.bind_some]
  cases t with
  | true => simpa using q2
  | false => simpa using q2
theorem drawStir_ev (l0 : List Int) (hb : l0.length ≤ 1048576) : ∃ (l : List Int) (key : Int), l.length ≤ 2000 ∧ 0 ≤ key ∧ key ≤ 65536 ∧ Ev (fun k => spec_DrawStir15.f k l0) (l, key) := by
  obtain ⟨h, e0⟩ := l1New_ev l0
  obtain ⟨l, i1, s1, o1, o2, o3, q⟩ := any_ev l0 l0 hb hb 0 h (by omega) (by omega)
  obtain ⟨v, i2, s2, e2, q1, q2, q3⟩ := l1PickInt_some l0 i1 s1 [1, 2, 44257, 65535, 0, 65536, 777] (by simp) hb o2 o3
  have hv : 0 ≤ v ∧ v ≤ 65536 := by
    simp only [List.mem_cons, List.not_mem_nil, or_false] at q1
    omega
  refine ⟨l, v, o1, hv.1, hv.2, Ev.bind e0 (Ev.bind q ?_)⟩
  simp only [e2, Option.bind_some]
  exact Ev.now _
theorem drawWeave_ev (l0 : List Int) (hb : l0.length ≤ 1048576) : ∃ (l : List Int) (rows : Int), l.length ≤ 2000 ∧ Ev (fun k => spec_DrawWeave15.f k l0) (l, rows) := by
  obtain ⟨h, e0⟩ := l1New_ev l0
  obtain ⟨v1, i1, s1, e1, p1, p2, p3, p4, p5⟩ := l1Below_some l0 0 h 8 hb (by omega) (by omega)
  have p6 := p2 (by omega)
  obtain ⟨z, ez, z0, z1⟩ := size_some l0 20 hb (by omega) (by omega)
  obtain ⟨v2, i2, s2, e2, q1, q2, q3, q4, q5⟩ := l1Below_some l0 i1 s1 z hb p4 p5
  have hv2 : v2 ≤ 20 := by
    by_cases hz : 0 < z
    · have := q2 hz; omega
    · have := q3 (by omega); omega
  have hm0 : 0 ≤ (1 + v1) * v2 := Int.mul_nonneg (by omega) q1
  have hm1 : (1 + v1) * v2 ≤ 8 * v2 := Int.mul_le_mul_of_nonneg_right (by omega) q1
  obtain ⟨l, i3, s3, o1, o2, o3, q⟩ := drawBitsF_ev l0 hb ((1 + v1) * v2) i2 s2 (by omega) q4 q5
  obtain ⟨v4, i4, s4, e4, r1, r2, r3, r4, r5⟩ := l1Below_some l0 i3 s3 20 hb o2 o3
  have start : ∀ r, Ev (fun k => if v4 = 0 then ((spec_l1PickInt.f l0 i4 s4 ([0, 16, 17] : List Int)).bind fun bt230 => some (l, bt230.1)) else (if v4 = 1 then ((spec_l1Below.f l0 i4 s4 3).bind fun bt233 => if l.length < 17592186044416 then some (l ++ [bt233.1], wrap64 (1 + v1)) else none) else some (l, wrap64 (1 + v1)))) r → Ev (fun k => spec_DrawWeave15.f k l0) r := by
    intro r hr
    refine Ev.bind e0 ?_
    simp only [e1, ez, e2, Option.bind_some]
    rw [w64 (x := 1 + v1) (by omega) (by omega), w64 (x := (1 + v1) * v2) (by omega) (by omega)]
    refine Ev.bind q ?_
    simp only [e4, Option.bind_some]
    rw [w64 (x := 1 + v1) (by omega) (by omega)] at hr
    exact hr
  by_cases h40 : v4 = 0
  · obtain ⟨v5, i5, s5, e5, t1, t2, t3⟩ := l1PickInt_some l0 i4 s4 [0, 16, 17] (by simp) hb r4 r5
    refine ⟨l, v5, by omega, start _ ?_⟩
    simp only [if_pos h40, e5, Option.bind_some]
    exact Ev.now _
  · by_cases h41 : v4 = 1
    · obtain ⟨v5, i5, s5, e5, t1, t2, t3, t4, t5⟩ := l1Below_some l0 i4 s4 3 hb r4 r5
      refine ⟨l ++ [v5], wrap64 (1 + v1), by simp; omega, start _ ?_⟩
      simp (disch := omega) only [if_neg h40, if_pos h41, e5, Option.bind_some, ↓if_pos]
      exact Ev.now _
    · refine ⟨l, wrap64 (1 + v1), by omega, start _ ?_⟩
      simp only [if_neg h40, if_neg h41]
      exact Ev.now _
theorem j2_ev (x0 : List Int) (hb : x0.length ≤ 1048576) : Ev (fun k => laws_FnStirred15.j2 k x0) true := by
  obtain ⟨l, a1, o1, hd⟩ := drawWeave_ev x0 hb
  have hn : l.length ≤ 1048576 := by omega
  refine ev_unroll ?_
  simp only [laws_FnStirred15.j2]
  refine Ev.bind hd ?_
  by_cases h : WOk l a1
  · have hw := weave_t l a1 hn h
    have hs := specW_t l a1 hn h
    have h2 := h
    obtain ⟨m, rfl, hm, hm2, hl, hl1, hl2, hq, hq2⟩ := wok_parts h
    rw [Int.toNat_natCast] at hw hs
    refine Ev.bind (Ev.bind hw (Ev.now _)) (Ev.bind hs ?_)
    simp only [bne_self_eq_false, Bool.false_eq_true, ↓reduceIte]
    have hlen : (scat m (l.length / m) l).length = l.length := by rw [scat_length, ← hl1]
    have hok : WOk (scat m (l.length / m) l) (m : Int) := by
      refine ⟨ok_of_bits (scat_bits hl1 (bits_of_ok h2.1)) (by rw [hlen]; omega), h2.2.1, ?_⟩
      rw [hlen]
      exact h2.2.2
    have hu := unweave_t _ (m : Int) (by rw [hlen]; exact hn) hok
    rw [Int.toNat_natCast, hlen, scat_back _ _ _ hl1] at hu
    refine Ev.bind (Ev.bind hu (Ev.now _)) ?_
    simp only [↓reduceIte]
    refine Ev.bind (sameInts_ev l l hn) ?_
    simp only [decide_true]
    exact Ev.now _
  · refine Ev.bind (Ev.bind (weave_f l a1 false hn h) (Ev.now _)) (Ev.bind (specW_f l a1 hn h) ?_)
    simp only [bne_self_eq_false, Bool.false_eq_true, ↓reduceIte]
    have hu : ∃ r, Ev (fun k => impl_weave.f k [] a1 true) r := by
      by_cases h3 : WOk [] a1
      · exact ⟨_, unweave_t [] a1 (by simp) h3⟩
      · exact ⟨_, weave_f [] a1 true (by simp) h3⟩
    obtain ⟨r, hu⟩ := hu
    refine Ev.bind (Ev.bind hu (Ev.now _)) ?_
    exact Ev.now _
theorem shl_one {n : Int} (h0 : 0 ≤ n) (h1 : n < 16) : shl .i64 1 n = ((2 ^ n.toNat : Nat) : Int) := by
  obtain ⟨m, rfl⟩ := Int.eq_ofNat_of_zero_le h0
  have h : m < 16 := by omega
  rw [Int.toNat_natCast]
  have key : ∀ m : Fin 16, shl .i64 1 ((m.val : Nat) : Int) = ((2 ^ m.val : Nat) : Int) := by decide +kernel
  exact key ⟨m, h⟩
theorem small_ev : Ev (fun k => impl_Stir15.f k [0, 0, 0] 5) ([1, 0, 1], true) :=
  Ev.of (fun k => impl_Stir15.mono [0, 0, 0] 5 k) (k := 20) (by decide +kernel)
theorem FnStirred15 : laws_FnStirred15.Pure := by
  intro l0 _ _ hw
  refine Ev.rounds (g := fun k => laws_FnStirred15.f k l0) ?_
  simp only [laws_FnStirred15.f, laws_big.f, Option.bind_some, decide_eq_true_eq]
  by_cases hb : (l0.length : Int) > 1048576
  · simp only [if_pos hb]
    exact Ev.now _
  simp only [if_neg hb]
  have hn : l0.length ≤ 1048576 := by omega
  obtain ⟨l, key, o1, k0, k1, hd⟩ := drawStir_ev l0 hn
  have hl : l.length ≤ 1048576 := by omega
  have h2 := j2_ev l0 hn
  refine Ev.bind hd ?_
  by_cases h : SOk l key
  · refine Ev.bind (implS_t l key hl h) (Ev.bind (specS_t l key hl h) ?_)
    simp only [bne_self_eq_false, Bool.false_eq_true, ↓reduceIte]
    refine Ev.bind small_ev ?_
    simp only [↓reduceIte]
    refine Ev.bind (sameInts_ev [1, 0, 1] [1, 0, 1] (by simp)) ?_
    simp only [decide_true, Bool.not_true]
    refine ev_unroll ?_
    simp only [laws_FnStirred15.j0, Bool.false_eq_true, ↓reduceIte]
    have hbits := bits_of_ok h.1
    have hle := bitsVal_le h.1
    obtain ⟨K, rfl⟩ := Int.eq_ofNat_of_zero_le k0
    rw [Int.toNat_natCast]
    have hbs : bitsVal (stir K l) 320 = true := ok_of_bits (stir_bits l K hbits) (by rw [stir_length]; exact hle)
    have hsl : (stir K l).length ≤ 1048576 := by rw [stir_length]; exact hl
    have hb2 := implS_t (stir K l) (K : Int) hsl ⟨hbs, h.2⟩
    rw [Int.toNat_natCast, stir_back l K hbits] at hb2
    refine Ev.bind hb2 ?_
    simp only [↓reduceIte]
    refine Ev.bind (sameInts_ev l l hl) ?_
    simp only [decide_true, Bool.not_true]
    obtain ⟨a, ha, a0, a1⟩ := at_some l0 0 hw hn (by omega) (by omega)
    refine ev_unroll ?_
    simp only [laws_FnStirred15.j1, Bool.false_eq_true, ↓reduceIte, ha, Option.bind_some]
    have ew : IntKind.u64.wrap (Int.tmod a 16) = a % 16 := by
      rw [tmod_nonneg a0, IntKind.wrap_u64]
      omega
    rw [ew]
    simp only [if_pos (show 0 ≤ a % 16 by omega)]
    rw [shl_one (by omega) (by omega)]
    have hK : K < 65536 := by have := h.2.2; omega
    have hp : 2 ^ (a % 16).toNat < 65536 := by
      have : (2 : Nat) ^ (a % 16).toNat < 2 ^ 16 := Nat.pow_lt_pow_right (by omega) (by omega)
      omega
    rw [xor64_nat K _ (by omega) (by omega)]
    have hx : K ^^^ (K ^^^ 2 ^ (a % 16).toNat) = 2 ^ (a % 16).toNat := by
      rw [← Nat.xor_assoc, Nat.xor_self, Nat.zero_xor]
    have hy : K ^^^ 2 ^ (a % 16).toNat < 65536 := Nat.xor_lt_two_pow (n := 16) (by omega) (by omega)
    generalize hY : K ^^^ 2 ^ (a % 16).toNat = Y at hx hy
    by_cases hpos : 0 < Y
    · have hs3 := implS_t (stir K l) (Y : Int) hsl ⟨hbs, by omega, by omega⟩
      rw [Int.toNat_natCast] at hs3
      refine Ev.bind hs3 ?_
      have e2 : decide ((Y : Int) > 0) = true := by simp; omega
      simp only [e2, bne_self_eq_false, Bool.false_eq_true, ↓reduceIte]
      by_cases h16 : (l.length : Int) ≥ 16
      · have hne := stir_other (a % 16).toNat l K Y hbits (by omega) hx
        simp only [if_pos h16]
        refine Ev.bind (sameInts_ev _ _ (by rw [stir_length]; exact hsl)) ?_
        rw [decide_eq_false hne]
        simp only [Bool.false_eq_true, ↓reduceIte]
        exact h2
      · simp only [if_neg h16]
        exact h2
    · have hs3 := implS_f (stir K l) (Y : Int) hsl (fun h3 => by have := h3.2.1; omega)
      refine Ev.bind hs3 ?_
      have e2 : decide ((Y : Int) > 0) = false := by simp; omega
      simp only [e2, bne_self_eq_false, Bool.false_eq_true, ↓reduceIte]
      exact h2
  · refine Ev.bind (implS_f l key hl h) (Ev.bind (specS_f l key hl h) ?_)
    simp only [bne_self_eq_false, Bool.false_eq_true, ↓reduceIte]
    refine Ev.bind small_ev ?_
    simp only [↓reduceIte]
    refine Ev.bind (sameInts_ev [1, 0, 1] [1, 0, 1] (by simp)) ?_
    simp only [decide_true, Bool.not_true]
    refine ev_unroll ?_
    simp only [laws_FnStirred15.j0, Bool.false_eq_true, ↓reduceIte]
    exact h2

end Go.Proofs.Ytcmcnpildccdeab.Pure
