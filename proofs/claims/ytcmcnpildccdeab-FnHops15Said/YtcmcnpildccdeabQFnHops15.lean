/- The law FnHops15: for every code the drawn channels are channels and the reference's, over 4096 frames in a row each of eight channels is used, and the drawn keys are the reference's and lie within 1 to 65535. -/
import Derived.Test.YtcmcnpildccdeabMFnHops15x3
import Derived.Test.YtcmcnpildccdeabKit
namespace Go.Proofs.Ytcmcnpildccdeab.Pure
set_option linter.unusedSimpArgs false
set_option linter.unusedVariables false
open Go Go.RowKit Go.Proofs.Ytcmcnpildccdeab.MFnHops15 Go.Proofs.YtcmcnpildccdeabW.PrintWords Go.Proofs.YtcmcnpildccdeabW.PrintLast Go.Proofs.Ytcmcnpildccdeab.Mine

theorem in_t {a b c : Int} (h : b ≤ a) (h2 : a ≤ c) : impl_in.f a b c = some true := by
  unfold impl_in.f
  rw [if_pos (by omega)]; simp [h2]
theorem in_f {a b c : Int} (h : ¬ (b ≤ a ∧ a ≤ c)) : impl_in.f a b c = some false := by
  unfold impl_in.f
  by_cases g : a ≥ b
  · rw [if_pos g]; simp; omega
  · rw [if_neg g]
theorem l1In_t {a b c : Int} (h : b ≤ a) (h2 : a ≤ c) : spec_l1In.f a b c = some true := by
  unfold spec_l1In.f
  rw [if_pos (by omega)]; simp [h2]
theorem l1In_f {a b c : Int} (h : ¬ (b ≤ a ∧ a ≤ c)) : spec_l1In.f a b c = some false := by
  unfold spec_l1In.f
  by_cases g : a ≥ b
  · rw [if_pos g]; simp; omega
  · rw [if_neg g]
theorem l1New_ev (x0 : List Int) : ∃ h, Ev (fun k => spec_l1New.f k x0) (x0, 0, h) := by
  have key : ∀ (d : Nat) (i h : Int), 4000 - i ≤ d → 0 ≤ i → ∃ h', Ev (fun k => spec_l1New.l0 k x0 h i) (x0, 0, h') := by
    intro d
    induction d with
    | zero =>
      intro i h hd h0
      refine ⟨h, ev_unroll ?_⟩
      by_cases hlt : i < (x0.length : Int)
      · simp (disch := omega) only [spec_l1New.l0, ↓if_pos, ↓if_neg, if_pos, if_neg, ↓reduceIte, w64, in_t, in_f, l1In_t, l1In_f, Option.bind_some, Bool.not_true, Bool.not_false, Bool.false_eq_true, tmod_nonneg, tdiv_nonneg]
        exact Ev.now _
      · simp (disch := omega) only [spec_l1New.l0, ↓if_pos, ↓if_neg, if_pos, if_neg, ↓reduceIte, w64, in_t, in_f, l1In_t, l1In_f, Option.bind_some, Bool.not_true, Bool.not_false, Bool.false_eq_true, tmod_nonneg, tdiv_nonneg]
        exact Ev.now _
    | succ d ih =>
      intro i h hd h0
      by_cases hlt : i < (x0.length : Int)
      · by_cases h4 : i < 4000
        · obtain ⟨h', p⟩ := ih (i + 1) (Go.bits .and .i64 (wrap64 ((wrap64 ((wrap64 (h * 131)) + (wrap64 (rd x0 i)))) + 7)) 1073741823) (by omega) (by omega)
          refine ⟨h', ev_unroll ?_⟩
          simp only [spec_l1New.l0, if_pos hlt, if_pos h4, if_pos h0]
          rw [w64 (x := i + 1) (by omega) (by omega)]
          exact p
        · refine ⟨h, ev_unroll ?_⟩
          simp (disch := omega) only [spec_l1New.l0, ↓if_pos, ↓if_neg, if_pos, if_neg, ↓reduceIte, w64, in_t, in_f, l1In_t, l1In_f, Option.bind_some, Bool.not_true, Bool.not_false, Bool.false_eq_true, tmod_nonneg, tdiv_nonneg]
          exact Ev.now _
      · refine ⟨h, ev_unroll ?_⟩
        simp (disch := omega) only [spec_l1New.l0, ↓if_pos, ↓if_neg, if_pos, if_neg, ↓reduceIte, w64, in_t, in_f, l1In_t, l1In_f, Option.bind_some, Bool.not_true, Bool.not_false, Bool.false_eq_true, tmod_nonneg, tdiv_nonneg]
        exact Ev.now _
  obtain ⟨h', p⟩ := key 4000 0 (wrap64 (71933 + (x0.length : Int))) (by omega) (by omega)
  exact ⟨h', p⟩
theorem l1Byte_some (b : List Int) (i h : Int) (hb : b.length ≤ 1048576) (h0 : 0 ≤ i) (h1 : i ≤ 1048576) :
    ∃ v i' h', spec_l1Byte.f b i h = some (v, i', h') ∧ 0 ≤ v ∧ v ≤ 255 ∧ 0 ≤ i' ∧ i' ≤ 1048576 := by
  unfold spec_l1Byte.f
  by_cases hlt : i < (b.length : Int)
  · rw [if_pos hlt, if_pos h0, w64 (x := i + 1) (by omega) (by omega)]
    refine ⟨_, _, _, rfl, ?_, ?_, by omega, by omega⟩
    · rw [and255]; omega
    · rw [and255]; omega
  · rw [if_neg hlt]
    refine ⟨_, _, _, rfl, ?_, ?_, h0, h1⟩
    · rw [and255]; omega
    · rw [and255]; omega
theorem l1Below_some (b : List Int) (i h n : Int) (hb : b.length ≤ 1048576) (h0 : 0 ≤ i) (h1 : i ≤ 1048576) :
    ∃ v i' h', spec_l1Below.f b i h n = some (v, i', h') ∧ 0 ≤ v ∧ (0 < n → v < n) ∧ (n ≤ 0 → v = 0) ∧ 0 ≤ i' ∧ i' ≤ 1048576 := by
  unfold spec_l1Below.f
  by_cases hn : n ≤ 0
  · rw [if_pos hn]
    exact ⟨0, i, h, rfl, by omega, by omega, fun _ => rfl, h0, h1⟩
  rw [if_neg hn]
  by_cases hm : n ≤ 256
  · rw [if_pos hm]
    obtain ⟨v, i1, s1, e1, p1, p2, p3, p4⟩ := l1Byte_some b i h hb h0 h1
    rw [e1]
    simp only [Option.bind_some]
    rw [if_neg (by omega), tmod_nonneg p1]
    exact ⟨_, _, _, rfl, Int.emod_nonneg _ (by omega), fun _ => Int.emod_lt_of_pos _ (by omega), fun h => absurd h hn, p3, p4⟩
  · rw [if_neg hm]
    obtain ⟨v1, i1, s1, e1, p1, p2, p3, p4⟩ := l1Byte_some b i h hb h0 h1
    obtain ⟨v2, i2, s2, e2, q1, q2, q3, q4⟩ := l1Byte_some b i1 s1 hb p3 p4
    obtain ⟨v3, i3, s3, e3, r1, r2, r3, r4⟩ := l1Byte_some b i2 s2 hb q3 q4
    obtain ⟨v4, i4, s4, e4, t1, t2, t3, t4⟩ := l1Byte_some b i3 s3 hb r3 r4
    rw [e1]
    simp only [Option.bind_some]
    rw [e2]
    simp only [Option.bind_some]
    rw [e3]
    simp only [Option.bind_some]
    rw [e4]
    simp only [Option.bind_some]
    rw [if_neg (by omega)]
    refine ⟨_, _, _, rfl, ?_, ?_, fun h => absurd h hn, t3, t4⟩
    · simp (disch := omega) only [w64]
      rw [tmod_nonneg (by omega)]
      exact Int.emod_nonneg _ (by omega)
    · intro _
      simp (disch := omega) only [w64]
      rw [tmod_nonneg (by omega)]
      exact Int.emod_lt_of_pos _ (by omega)
theorem l1Once_some (b : List Int) (i h n : Int) (hb : b.length ≤ 1048576) (h0 : 0 ≤ i) (h1 : i ≤ 1048576) :
    ∃ v i' h', spec_l1Once.f b i h n = some (v, i', h') ∧ 0 ≤ i' ∧ i' ≤ 1048576 := by
  unfold spec_l1Once.f
  obtain ⟨v, i1, s1, e1, p1, p2, p3, p4, p5⟩ := l1Below_some b i h n hb h0 h1
  rw [e1]
  exact ⟨_, _, _, rfl, p4, p5⟩
theorem l1PickInt_some (b : List Int) (i h : Int) (l : List Int) (hl : 0 < l.length) (hb : b.length ≤ 1048576) (h0 : 0 ≤ i) (h1 : i ≤ 1048576) :
    ∃ v i' h', spec_l1PickInt.f b i h l = some (v, i', h') ∧ v ∈ l ∧ 0 ≤ i' ∧ i' ≤ 1048576 := by
  unfold spec_l1PickInt.f
  obtain ⟨v, i1, s1, e1, p1, p2, p3, p4, p5⟩ := l1Below_some b i h (l.length : Int) hb h0 h1
  rw [e1]
  simp only [Option.bind_some]
  rw [if_pos p1, if_pos (p2 (by omega))]
  exact ⟨_, _, _, rfl, rd_mem p1 (p2 (by omega)), p4, p5⟩
theorem key_both (x0 : List Int) (a1 : Int) (hn : x0.length ≤ 1048576) : ∃ r : Int × Bool, (r.2 = true → 0 < r.1 ∧ r.1 < 65536) ∧ Ev (fun k => spec_Key15.f k x0 a1) r ∧ Ev (fun k => impl_Key15.f k x0 a1) r := by
  by_cases h1 : 1 ≤ (x0.length : Int) ∧ (x0.length : Int) ≤ 64
  · by_cases h2 : 0 ≤ a1 ∧ a1 ≤ 1000000
    · have hm0 : 0 ≤ a1 % (x0.length : Int) := Int.emod_nonneg _ (by omega)
      have hm1 : a1 % (x0.length : Int) < (x0.length : Int) := Int.emod_lt_of_pos _ (by omega)
      have key : ∀ (d : Nat) (i : Int), (x0.length : Int) - i ≤ d → 0 ≤ i → (∀ j, 0 ≤ j → j < i → 1 ≤ rd x0 j ∧ rd x0 j ≤ 65535) →
          ∃ r : Int × Bool, (r.2 = true → 0 < r.1 ∧ r.1 < 65536) ∧ Ev (fun k => spec_Key15.l0 k x0 a1 i) r ∧ Ev (fun k => impl_Key15.l0 k x0 a1 x0 (x0.length : Int) i) r := by
        have last : ∀ i : Int, (x0.length : Int) ≤ i → (∀ j, 0 ≤ j → j < i → 1 ≤ rd x0 j ∧ rd x0 j ≤ 65535) → ∃ r : Int × Bool, (r.2 = true → 0 < r.1 ∧ r.1 < 65536) ∧ Ev (fun k => spec_Key15.l0 k x0 a1 i) r ∧ Ev (fun k => impl_Key15.l0 k x0 a1 x0 (x0.length : Int) i) r := by
          intro i hi hv
          have hw := hv _ hm0 (by omega)
          have hx := xor64_lt (a := rd x0 (a1 % (x0.length : Int))) (b := a1 % 65536) 16 (by omega) (by omega) (by omega) (by omega) (by omega)
          by_cases hz : Go.bits .xor .i64 (rd x0 (a1 % (x0.length : Int))) (a1 % 65536) = 0
          · refine ⟨(1, true), fun _ => by simp, ev_unroll ?_, ev_unroll ?_⟩
            · simp (disch := omega) only [spec_Key15.l0, ↓if_pos, ↓if_neg, if_pos, if_neg, ↓reduceIte, w64, in_t, in_f, l1In_t, l1In_f, Option.bind_some, Bool.not_true, Bool.not_false, Bool.false_eq_true, tmod_nonneg, tdiv_nonneg]
              exact Ev.now _
            · simp (disch := omega) only [impl_Key15.l0, ↓if_pos, ↓if_neg, if_pos, if_neg, ↓reduceIte, w64, in_t, in_f, l1In_t, l1In_f, Option.bind_some, Bool.not_true, Bool.not_false, Bool.false_eq_true, tmod_nonneg, tdiv_nonneg]
              exact Ev.now _
          · refine ⟨(Go.bits .xor .i64 (rd x0 (a1 % (x0.length : Int))) (a1 % 65536), true), fun _ => ⟨by simp only; omega, by simp only; omega⟩, ev_unroll ?_, ev_unroll ?_⟩
            · simp (disch := omega) only [spec_Key15.l0, ↓if_pos, ↓if_neg, if_pos, if_neg, ↓reduceIte, w64, in_t, in_f, l1In_t, l1In_f, Option.bind_some, Bool.not_true, Bool.not_false, Bool.false_eq_true, tmod_nonneg, tdiv_nonneg]
              exact Ev.now _
            · simp (disch := omega) only [impl_Key15.l0, ↓if_pos, ↓if_neg, if_pos, if_neg, ↓reduceIte, w64, in_t, in_f, l1In_t, l1In_f, Option.bind_some, Bool.not_true, Bool.not_false, Bool.false_eq_true, tmod_nonneg, tdiv_nonneg]
              exact Ev.now _
        intro d
        induction d with
        | zero => exact fun i hd h0 hv => last i (by omega) hv
        | succ d ih =>
          intro i hd h0 hv
          by_cases hlt : i < (x0.length : Int)
          · by_cases hin : 1 ≤ rd x0 i ∧ rd x0 i ≤ 65535
            · obtain ⟨r, o, p, q⟩ := ih (i + 1) (by omega) (by omega) (fun j j0 j1 => by
                by_cases e : j = i
                · rw [e]; exact hin
                · exact hv j j0 (by omega))
              refine ⟨r, o, ev_unroll ?_, ev_unroll ?_⟩
              · simp (disch := omega) only [spec_Key15.l0, ↓if_pos, ↓if_neg, if_pos, if_neg, ↓reduceIte, w64, in_t, in_f, l1In_t, l1In_f, Option.bind_some, Bool.not_true, Bool.not_false, Bool.false_eq_true, tmod_nonneg, tdiv_nonneg]
                exact p
              · simp (disch := omega) only [impl_Key15.l0, ↓if_pos, ↓if_neg, if_pos, if_neg, ↓reduceIte, w64, in_t, in_f, l1In_t, l1In_f, Option.bind_some, Bool.not_true, Bool.not_false, Bool.false_eq_true, tmod_nonneg, tdiv_nonneg]
                exact q
            · refine ⟨(0, false), fun h => by simp at h, ev_unroll ?_, ev_unroll ?_⟩
              · simp (disch := omega) only [spec_Key15.l0, ↓if_pos, ↓if_neg, if_pos, if_neg, ↓reduceIte, w64, in_t, in_f, l1In_t, l1In_f, Option.bind_some, Bool.not_true, Bool.not_false, Bool.false_eq_true, tmod_nonneg, tdiv_nonneg]
                exact Ev.now _
              · simp (disch := omega) only [impl_Key15.l0, ↓if_pos, ↓if_neg, if_pos, if_neg, ↓reduceIte, w64, in_t, in_f, l1In_t, l1In_f, Option.bind_some, Bool.not_true, Bool.not_false, Bool.false_eq_true, tmod_nonneg, tdiv_nonneg]
                exact Ev.now _
          · exact last i (by omega) hv
      obtain ⟨r, o, p, q⟩ := key x0.length 0 (by omega) (by omega) (fun j j0 j1 => by omega)
      refine ⟨r, o, ?_, ?_⟩
      · simp (disch := omega) only [spec_Key15.f, ↓if_pos, ↓if_neg, if_pos, if_neg, ↓reduceIte, w64, in_t, in_f, l1In_t, l1In_f, Option.bind_some, Bool.not_true, Bool.not_false, Bool.false_eq_true, tmod_nonneg, tdiv_nonneg]
        refine ev_unroll ?_
        simp (disch := omega) only [spec_Key15.j0, ↓if_pos, ↓if_neg, if_pos, if_neg, ↓reduceIte, w64, in_t, in_f, l1In_t, l1In_f, Option.bind_some, Bool.not_true, Bool.not_false, Bool.false_eq_true, tmod_nonneg, tdiv_nonneg]
        exact p
      · simp (disch := omega) only [impl_Key15.f, ↓if_pos, ↓if_neg, if_pos, if_neg, ↓reduceIte, w64, in_t, in_f, l1In_t, l1In_f, Option.bind_some, Bool.not_true, Bool.not_false, Bool.false_eq_true, tmod_nonneg, tdiv_nonneg]
        refine ev_unroll ?_
        simp (disch := omega) only [impl_Key15.j0, ↓if_pos, ↓if_neg, if_pos, if_neg, ↓reduceIte, w64, in_t, in_f, l1In_t, l1In_f, Option.bind_some, Bool.not_true, Bool.not_false, Bool.false_eq_true, tmod_nonneg, tdiv_nonneg]
        exact q
    · refine ⟨(0, false), fun h => by simp at h, ?_, ?_⟩
      · simp (disch := omega) only [spec_Key15.f, ↓if_pos, ↓if_neg, if_pos, if_neg, ↓reduceIte, w64, in_t, in_f, l1In_t, l1In_f, Option.bind_some, Bool.not_true, Bool.not_false, Bool.false_eq_true, tmod_nonneg, tdiv_nonneg]
        refine ev_unroll ?_
        simp (disch := omega) only [spec_Key15.j0, ↓if_pos, ↓if_neg, if_pos, if_neg, ↓reduceIte, w64, in_t, in_f, l1In_t, l1In_f, Option.bind_some, Bool.not_true, Bool.not_false, Bool.false_eq_true, tmod_nonneg, tdiv_nonneg]
        exact Ev.now _
      · simp (disch := omega) only [impl_Key15.f, ↓if_pos, ↓if_neg, if_pos, if_neg, ↓reduceIte, w64, in_t, in_f, l1In_t, l1In_f, Option.bind_some, Bool.not_true, Bool.not_false, Bool.false_eq_true, tmod_nonneg, tdiv_nonneg]
        refine ev_unroll ?_
        simp (disch := omega) only [impl_Key15.j0, ↓if_pos, ↓if_neg, if_pos, if_neg, ↓reduceIte, w64, in_t, in_f, l1In_t, l1In_f, Option.bind_some, Bool.not_true, Bool.not_false, Bool.false_eq_true, tmod_nonneg, tdiv_nonneg]
        exact Ev.now _
  · refine ⟨(0, false), fun h => by simp at h, ?_, ?_⟩
    · simp (disch := omega) only [spec_Key15.f, ↓if_pos, ↓if_neg, if_pos, if_neg, ↓reduceIte, w64, in_t, in_f, l1In_t, l1In_f, Option.bind_some, Bool.not_true, Bool.not_false, Bool.false_eq_true, tmod_nonneg, tdiv_nonneg]
      refine ev_unroll ?_
      simp (disch := omega) only [spec_Key15.j0, ↓if_pos, ↓if_neg, if_pos, if_neg, ↓reduceIte, w64, in_t, in_f, l1In_t, l1In_f, Option.bind_some, Bool.not_true, Bool.not_false, Bool.false_eq_true, tmod_nonneg, tdiv_nonneg]
      exact Ev.now _
    · simp (disch := omega) only [impl_Key15.f, ↓if_pos, ↓if_neg, if_pos, if_neg, ↓reduceIte, w64, in_t, in_f, l1In_t, l1In_f, Option.bind_some, Bool.not_true, Bool.not_false, Bool.false_eq_true, tmod_nonneg, tdiv_nonneg]
      refine ev_unroll ?_
      simp (disch := omega) only [impl_Key15.j0, ↓if_pos, ↓if_neg, if_pos, if_neg, ↓reduceIte, w64, in_t, in_f, l1In_t, l1In_f, Option.bind_some, Bool.not_true, Bool.not_false, Bool.false_eq_true, tmod_nonneg, tdiv_nonneg]
      exact Ev.now _
theorem at_some (x0 : List Int) (i : Int) (h : ∀ x ∈ x0, (Lit.int .u8 x).wf = true) (hb : x0.length ≤ 1048576) (h0 : 0 ≤ i) (h1 : i ≤ 1000) : ∃ a, laws_at.f x0 i = some a ∧ 0 ≤ a ∧ a ≤ 255 := by
  unfold laws_at.f
  by_cases hlt : i < (x0.length : Int)
  · have hw := wf8 (h _ (rd_mem h0 hlt))
    simp (disch := omega) only [↓if_pos, ↓if_neg, if_pos, if_neg, ↓reduceIte, w64, in_t, in_f, l1In_t, l1In_f, Option.bind_some, Bool.not_true, Bool.not_false, Bool.false_eq_true, tmod_nonneg, tdiv_nonneg]
    exact ⟨_, rfl, by omega, by omega⟩
  · simp (disch := omega) only [↓if_pos, ↓if_neg, if_pos, if_neg, ↓reduceIte, w64, in_t, in_f, l1In_t, l1In_f, Option.bind_some, Bool.not_true, Bool.not_false, Bool.false_eq_true, tmod_nonneg, tdiv_nonneg]
    exact ⟨_, rfl, by omega, by omega⟩
theorem hop_val (a0 a1 a2 : Int) : ∃ r, impl_Hop.f a0 a1 a2 = some r ∧ spec_Hop.f a0 a1 a2 = some r ∧ (r ≥ a2 → r < 0) := by
  have e : spec_Hop.f a0 a1 a2 = impl_Hop.f a0 a1 a2 := rfl
  rw [e]
  suffices H : ∃ r, impl_Hop.f a0 a1 a2 = some r ∧ (r ≥ a2 → r < 0) by
    obtain ⟨r, h1, h2⟩ := H
    exact ⟨r, h1, h1, h2⟩
  unfold impl_Hop.f
  by_cases h0 : 0 ≤ a0 ∧ a0 ≤ 65535
  · by_cases h1 : 0 ≤ a1 ∧ a1 ≤ 1000000
    · by_cases h2 : 1 ≤ a2 ∧ a2 ≤ 64
      · have hx := xor64_lt (a := (a0 + 40503 * a1) % 65536) (b := (a0 + 40503 * a1) % 65536 / 256) 16 (by omega) (by omega) (by omega) (by omega) (by omega)
        simp (disch := omega) only [↓if_pos, ↓if_neg, if_pos, if_neg, ↓reduceIte, w64, in_t, in_f, l1In_t, l1In_f, Option.bind_some, Bool.not_true, Bool.not_false, Bool.false_eq_true, tmod_nonneg, tdiv_nonneg]
        generalize Go.bits .xor .i64 ((a0 + 40503 * a1) % 65536) ((a0 + 40503 * a1) % 65536 / 256) = x at hx ⊢
        have hm0 : 0 ≤ x * a2 := Int.mul_nonneg hx.1 (by omega)
        have hm1 : x * a2 ≤ 65535 * a2 := Int.mul_le_mul_of_nonneg_right (by omega) (by omega)
        refine ⟨_, rfl, ?_⟩
        simp (disch := omega) only [↓if_pos, ↓if_neg, if_pos, if_neg, ↓reduceIte, w64, in_t, in_f, l1In_t, l1In_f, Option.bind_some, Bool.not_true, Bool.not_false, Bool.false_eq_true, tmod_nonneg, tdiv_nonneg]
        intro hge
        omega
      · simp (disch := omega) only [↓if_pos, ↓if_neg, if_pos, if_neg, ↓reduceIte, w64, in_t, in_f, l1In_t, l1In_f, Option.bind_some, Bool.not_true, Bool.not_false, Bool.false_eq_true, tmod_nonneg, tdiv_nonneg]
        exact ⟨_, rfl, fun _ => by omega⟩
    · simp (disch := omega) only [↓if_pos, ↓if_neg, if_pos, if_neg, ↓reduceIte, w64, in_t, in_f, l1In_t, l1In_f, Option.bind_some, Bool.not_true, Bool.not_false, Bool.false_eq_true, tmod_nonneg, tdiv_nonneg]
      exact ⟨_, rfl, fun _ => by omega⟩
  · simp (disch := omega) only [↓if_pos, ↓if_neg, if_pos, if_neg, ↓reduceIte, w64, in_t, in_f, l1In_t, l1In_f, Option.bind_some, Bool.not_true, Bool.not_false, Bool.false_eq_true, tmod_nonneg, tdiv_nonneg]
    exact ⟨_, rfl, fun _ => by omega⟩
theorem hop8 (s f : Int) (h0 : 0 ≤ s) (h1 : s ≤ 65535) (h2 : 0 ≤ f) (h3 : f ≤ 1000000) : impl_Hop.f s f 8 = some ((s + 40503 * f) % 65536 / 8192) := by
  have hx := xor64_lt (a := (s + 40503 * f) % 65536) (b := (s + 40503 * f) % 65536 / 256) 16 (by omega) (by omega) (by omega) (by omega) (by omega)
  have hd := xor64_div (a := (s + 40503 * f) % 65536) (by omega) (by omega)
  unfold impl_Hop.f
  simp (disch := omega) only [↓if_pos, ↓if_neg, if_pos, if_neg, ↓reduceIte, w64, in_t, in_f, l1In_t, l1In_f, Option.bind_some, Bool.not_true, Bool.not_false, Bool.false_eq_true, tmod_nonneg, tdiv_nonneg]
  generalize Go.bits .xor .i64 ((s + 40503 * f) % 65536) ((s + 40503 * f) % 65536 / 256) = x at hx hd ⊢
  rw [← hd]
  congr 1
  omega
theorem rdOf_set_same (y : List Bool) (t : Int) (h0 : 0 ≤ t) (h1 : t < (y.length : Int)) : rdOf false (y.set t.toNat true) t = true := by
  have h : t.toNat < y.length := by omega
  simp [rdOf, h]
theorem rdOf_set_keep (y : List Bool) (t u : Int) (h : rdOf false y u = true) : rdOf false (y.set t.toNat true) u = true := by
  simp only [rdOf, List.getD_eq_getElem?_getD, List.getElem?_set] at *
  split
  · split
    · rfl
    · rename_i h1 h2
      rw [← h1, List.getElem?_eq_none (by omega)] at h
      simp at h
  · exact h
/-- Within eight rounds of 16 frames each the channel t comes. -/
theorem comes (s b t : Int) (h0 : 0 ≤ t) (h1 : t < 8) : ∃ j : Nat, j < 256 ∧ (s + 40503 * (16 * (j : Int) + b)) % 65536 / 8192 = t := by
  obtain ⟨D, hD⟩ : ∃ D, D = (s + 40503 * b - 8192 * t) % 65536 := ⟨_, rfl⟩
  obtain ⟨q, hq⟩ : ∃ q, s + 40503 * b = 8192 * t + D + 65536 * q := ⟨(s + 40503 * b - 8192 * t) / 65536, by omega⟩
  have hD0 : 0 ≤ D ∧ D ≤ 65535 := by omega
  clear hD
  obtain ⟨j, hj⟩ := Int.eq_ofNat_of_zero_le (show 0 ≤ D / 7312 by omega)
  refine ⟨j, by omega, ?_⟩
  have e : s + 40503 * (16 * (j : Int) + b) = 8192 * t + (D - 7312 * (j : Int)) + 65536 * (q + 10 * (j : Int)) := by omega
  rw [e]
  have h2 : 0 ≤ D - 7312 * (j : Int) ∧ D - 7312 * (j : Int) ≤ 7311 := by omega
  clear e hq hj
  generalize D - 7312 * (j : Int) = E at h2 ⊢
  generalize q + 10 * (j : Int) = F
  omega
theorem dk3 (b : List Int) (hb : b.length ≤ 1048576) (x5 : List Int) (x7 i h : Int) (h0 : 0 ≤ i) (h1 : i ≤ 1048576) : ∃ fr, Ev (fun k => spec_DrawKey15.j3 k x5 x7 b i h) (x5, fr) := by
  obtain ⟨t, i1, s1, e1, p1, p2⟩ := l1Once_some b i h 30 hb h0 h1
  cases t with
  | true =>
    obtain ⟨v, i2, s2, e2, q1, q2, q3⟩ := l1PickInt_some b i1 s1 [(-1), 1000000, 1000001] (by simp) hb p1 p2
    refine ⟨v, ev_unroll ?_⟩
    simp only [spec_DrawKey15.j3, e1, Option.bind_some, ↓reduceIte, e2]
    exact Ev.now _
  | false =>
    refine ⟨x7, ev_unroll ?_⟩
    simp only [spec_DrawKey15.j3, e1, Option.bind_some, ↓reduceIte, Bool.false_eq_true]
    exact Ev.now _
theorem dk2 (b : List Int) (hb : b.length ≤ 1048576) (x5 : List Int) (x7 i h : Int) (h0 : 0 ≤ i) (h1 : i ≤ 1048576) (c : Bool) (hc : c = true → 0 < x5.length) : ∃ fr, Ev (fun k => spec_DrawKey15.j2 k x5 x7 c b i h) (x5, fr) := by
  cases c with
  | true =>
    have hl := hc rfl
    obtain ⟨v, i1, s1, e1, p1, p2, p3, p4, p5⟩ := l1Below_some b i h 2 hb h0 h1
    obtain ⟨fr, q⟩ := dk3 b hb x5 (wrap64 ((rd x5 0) * v)) i1 s1 p4 p5
    refine ⟨fr, ev_unroll ?_⟩
    simp (disch := omega) only [spec_DrawKey15.j2, e1, ↓if_pos, ↓if_neg, if_pos, if_neg, ↓reduceIte, w64, in_t, in_f, l1In_t, l1In_f, Option.bind_some, Bool.not_true, Bool.not_false, Bool.false_eq_true, tmod_nonneg, tdiv_nonneg]
    exact q
  | false =>
    obtain ⟨fr, q⟩ := dk3 b hb x5 x7 i h h0 h1
    refine ⟨fr, ev_unroll ?_⟩
    simp (disch := omega) only [spec_DrawKey15.j2, ↓if_pos, ↓if_neg, if_pos, if_neg, ↓reduceIte, w64, in_t, in_f, l1In_t, l1In_f, Option.bind_some, Bool.not_true, Bool.not_false, Bool.false_eq_true, tmod_nonneg, tdiv_nonneg]
    exact q
theorem dk1 (b : List Int) (hb : b.length ≤ 1048576) (x5 : List Int) (i h : Int) (h0 : 0 ≤ i) (h1 : i ≤ 1048576) : ∃ fr, Ev (fun k => spec_DrawKey15.j1 k x5 b i h) (x5, fr) := by
  obtain ⟨v, i1, s1, e1, p1, p2, p3, p4, p5⟩ := l1Below_some b i h 200000 hb h0 h1
  obtain ⟨t, i2, s2, e2, q1, q2⟩ := l1Once_some b i1 s1 5 hb p4 p5
  cases t with
  | true =>
    obtain ⟨fr, q⟩ := dk2 b hb x5 v i2 s2 q1 q2 (decide ((x5.length : Int) > 0)) (fun h => by simpa using h)
    refine ⟨fr, ev_unroll ?_⟩
    simp only [spec_DrawKey15.j1, e1, e2, Option.bind_some, ↓reduceIte]
    exact q
  | false =>
    obtain ⟨fr, q⟩ := dk2 b hb x5 v i2 s2 q1 q2 false (fun h => by simp at h)
    refine ⟨fr, ev_unroll ?_⟩
    simp only [spec_DrawKey15.j1, e1, e2, Option.bind_some, ↓reduceIte, Bool.false_eq_true]
    exact q
theorem dk0 (b : List Int) (hb : b.length ≤ 1048576) : ∀ (d : Nat) (x5 : List Int) (x6 i h : Int), x6 ≤ d → d + x5.length ≤ 20 → 0 ≤ i → i ≤ 1048576 → ∃ bk fr, bk.length ≤ 100 ∧ Ev (fun k => spec_DrawKey15.l0 k x5 x6 b i h) (bk, fr) := by
  have last : ∀ (x5 : List Int) (x6 i h : Int), x6 ≤ 0 → x5.length ≤ 20 → 0 ≤ i → i ≤ 1048576 → ∃ bk fr, bk.length ≤ 100 ∧ Ev (fun k => spec_DrawKey15.l0 k x5 x6 b i h) (bk, fr) := by
    intro x5 x6 i h hx hl h0 h1
    obtain ⟨t, i1, s1, e1, p1, p2⟩ := l1Once_some b i h 20 hb h0 h1
    cases t with
    | true =>
      obtain ⟨v, i2, s2, e2, q1, q2, q3⟩ := l1PickInt_some b i1 s1 [0, 65535, 65536, 7] (by simp) hb p1 p2
      obtain ⟨fr, q⟩ := dk1 b hb (x5 ++ [v]) i2 s2 q2 q3
      refine ⟨x5 ++ [v], fr, by simp; omega, ev_unroll ?_⟩
      simp (disch := omega) only [spec_DrawKey15.l0, e1, e2, ↓if_pos, ↓if_neg, if_pos, if_neg, ↓reduceIte, w64, in_t, in_f, l1In_t, l1In_f, Option.bind_some, Bool.not_true, Bool.not_false, Bool.false_eq_true, tmod_nonneg, tdiv_nonneg]
      exact q
    | false =>
      obtain ⟨fr, q⟩ := dk1 b hb x5 i1 s1 p1 p2
      refine ⟨x5, fr, by omega, ev_unroll ?_⟩
      simp (disch := omega) only [spec_DrawKey15.l0, e1, ↓if_pos, ↓if_neg, if_pos, if_neg, ↓reduceIte, w64, in_t, in_f, l1In_t, l1In_f, Option.bind_some, Bool.not_true, Bool.not_false, Bool.false_eq_true, tmod_nonneg, tdiv_nonneg]
      exact q
  intro d
  induction d with
  | zero => exact fun x5 x6 i h hx hl h0 h1 => last x5 x6 i h (by omega) (by omega) h0 h1
  | succ d ih =>
    intro x5 x6 i h hx hl h0 h1
    by_cases hp : x6 > 0
    · obtain ⟨v, i1, s1, e1, p1, p2, p3, p4, p5⟩ := l1Below_some b i h 65535 hb h0 h1
      obtain ⟨bk, fr, o, q⟩ := ih (x5 ++ [wrap64 (1 + v)]) (x6 - 1) i1 s1 (by omega) (by simp; omega) p4 p5
      refine ⟨bk, fr, o, ev_unroll ?_⟩
      simp only [spec_DrawKey15.l0, if_pos hp, e1, Option.bind_some]
      rw [w64 (x := x6 - 1) (by omega) (by omega)]
      simp (disch := omega) only [↓if_pos]
      exact q
    · exact last x5 x6 i h (by omega) (by omega) h0 h1
theorem drawKey_ev (l0 : List Int) (hb : l0.length ≤ 1048576) : ∃ bk fr, bk.length ≤ 100 ∧ Ev (fun k => spec_DrawKey15.f k l0) (bk, fr) := by
  obtain ⟨h, e0⟩ := l1New_ev l0
  obtain ⟨v, i1, s1, e1, p1, p2, p3, p4, p5⟩ := l1Below_some l0 0 h 6 hb (by omega) (by omega)
  obtain ⟨bk, fr, o, q⟩ := dk0 l0 hb 6 [] v i1 s1 (by omega) (by simp) p4 p5
  refine ⟨bk, fr, o, Ev.bind e0 ?_⟩
  simp only [e1, Option.bind_some]
  exact q
theorem tail_ev (x0 : List Int) (hb : x0.length ≤ 1048576) (y : List Bool) (hl : y.length = 8) (hy : ∀ t : Int, 0 ≤ t → t < 8 → rdOf false y t = true) : ∀ (d : Nat) (i : Int), 8 - i ≤ d → 0 ≤ i → Ev (fun k => laws_FnHops15.l1 k x0 y i) true := by
  have last : ∀ i : Int, 8 ≤ i → Ev (fun k => laws_FnHops15.l1 k x0 y i) true := by
    intro i hi
    obtain ⟨bk, fr, o, q⟩ := drawKey_ev x0 hb
    obtain ⟨⟨r, ok⟩, g, hs, hi2⟩ := key_both bk fr (by omega)
    refine ev_unroll ?_
    simp (disch := omega) only [laws_FnHops15.l1, ↓if_neg]
    refine Ev.bind q (Ev.bind hi2 (Ev.bind hs ?_))
    cases ok with
    | true =>
      have g2 := g rfl
      simp only at g2
      simp (disch := omega) only [↓reduceIte, beq_self_eq_true, ↓if_pos, decide_eq_true g2.2]
      exact Ev.now _
    | false =>
      simp only [↓reduceIte, beq_self_eq_true, Bool.false_eq_true]
      exact Ev.now _
  intro d
  induction d with
  | zero => exact fun i hd h0 => last i (by omega)
  | succ d ih =>
    intro i hd h0
    by_cases hlt : i < 8
    · have h := ih (i + 1) (by omega) (by omega)
      have ht := hy i h0 hlt
      refine ev_unroll ?_
      simp (disch := omega) only [laws_FnHops15.l1, ht, ↓if_pos, ↓if_neg, if_pos, if_neg, ↓reduceIte, w64, in_t, in_f, l1In_t, l1In_f, Option.bind_some, Bool.not_true, Bool.not_false, Bool.false_eq_true, tmod_nonneg, tdiv_nonneg]
      exact h
    · exact last i (by omega)
theorem loop_ev (x0 : List Int) (hb : x0.length ≤ 1048576) (a b : Int) (ha : laws_at.f x0 0 = some a) (hb1 : laws_at.f x0 1 = some b) (a0 : 0 ≤ a) (a1 : a ≤ 255) (b0 : 0 ≤ b) (b1 : b ≤ 255) :
    ∀ (d : Nat) (J : Nat) (y : List Bool), 256 - J = d → J ≤ 256 → y.length = 8 → (∀ j : Nat, j < J → rdOf false y ((a * 200 + 40503 * (16 * (j : Int) + b)) % 65536 / 8192) = true) → Ev (fun k => laws_FnHops15.l0 k x0 y (16 * (J : Int))) true := by
  intro d
  induction d with
  | zero =>
    intro J y hd hJ hl hy
    have e : J = 256 := by omega
    subst e
    refine ev_unroll ?_
    simp (disch := omega) only [laws_FnHops15.l0, ↓if_neg]
    refine tail_ev x0 hb y hl (fun t t0 t1 => ?_) 8 0 (by omega) (by omega)
    obtain ⟨j, j1, j2⟩ := comes (a * 200) b t t0 t1
    rw [← j2]
    exact hy j j1
  | succ d ih =>
    intro J y hd hJ hl hy
    have h8 := hop8 (a * 200) (16 * (J : Int) + b) (by omega) (by omega) (by omega) (by omega)
    have hr0 : 0 ≤ (a * 200 + 40503 * (16 * (J : Int) + b)) % 65536 / 8192 := by omega
    have hr1 : (a * 200 + 40503 * (16 * (J : Int) + b)) % 65536 / 8192 ≤ 7 := by omega
    refine ev_unroll ?_
    simp (disch := omega) only [laws_FnHops15.l0, ↓if_pos, ha, hb1, Option.bind_some, w64, h8]
    generalize hg : (a * 200 + 40503 * (16 * (J : Int) + b)) % 65536 / 8192 = t at *
    simp (disch := omega) only [↓if_pos, ↓if_neg]
    have h := ih (J + 1) (y.set t.toNat true) (by omega) (by omega) (by simpa using hl) (fun j hj => by
      by_cases e : j = J
      · rw [e, hg]
        exact rdOf_set_same y t hr0 (by omega)
      · exact rdOf_set_keep y t _ (hy j (by omega)))
    rw [show 16 * (J : Int) + 16 = 16 * ((J + 1 : Nat) : Int) from by omega]
    exact h
theorem FnHops15 : laws_FnHops15.Pure := by
  intro l0 _ _ hw
  refine Ev.rounds (g := fun k => laws_FnHops15.f k l0) ?_
  simp only [laws_FnHops15.f, laws_big.f, Option.bind_some, decide_eq_true_eq]
  by_cases hb : (l0.length : Int) > 1048576
  · simp only [if_pos hb]
    exact Ev.now _
  simp only [if_neg hb]
  have hn : l0.length ≤ 1048576 := by omega
  obtain ⟨h, e0⟩ := l1New_ev l0
  obtain ⟨v1, i1, s1, e1, p1, p2, p3, p4, p5⟩ := l1Below_some l0 0 h 65538 hn (by omega) (by omega)
  obtain ⟨v2, i2, s2, e2, q1, q2, q3, q4, q5⟩ := l1Below_some l0 i1 s1 1000003 hn p4 p5
  obtain ⟨v3, i3, s3, e3, r1, r2, r3, r4, r5⟩ := l1Below_some l0 i2 s2 67 hn q4 q5
  have hd : Ev (fun k => spec_DrawHop.f k l0) (wrap64 (v1 - 1), wrap64 (v2 - 1), wrap64 (v3 - 1)) := by
    refine Ev.bind e0 ?_
    simp only [e1, e2, e3, Option.bind_some]
    exact Ev.now _
  obtain ⟨r, f1, f2, f3⟩ := hop_val (wrap64 (v1 - 1)) (wrap64 (v2 - 1)) (wrap64 (v3 - 1))
  refine Ev.bind hd ?_
  simp only [f1, f2, Option.bind_some, ↓reduceIte]
  obtain ⟨a, ha, a0, a1⟩ := at_some l0 0 hw hn (by omega) (by omega)
  obtain ⟨b, hb1, b0, b1⟩ := at_some l0 1 hw hn (by omega) (by omega)
  have main : Ev (fun k => laws_FnHops15.j0 k l0 false) true := by
    refine ev_unroll ?_
    simp (disch := omega) only [laws_FnHops15.j0, Bool.false_eq_true, ↓reduceIte, ↓if_pos]
    have h := loop_ev l0 hn a b ha hb1 a0 a1 b0 b1 _ 0 (List.replicate 8 false) rfl (by omega) (by simp) (fun j hj => by omega)
    simpa using h
  by_cases hge : r ≥ wrap64 (v3 - 1)
  · have hlt := f3 hge
    simp only [if_pos hge]
    rw [show decide (r ≥ 0) = false from by simp; omega]
    exact main
  · simp only [if_neg hge]
    exact main

end Go.Proofs.Ytcmcnpildccdeab.Pure
