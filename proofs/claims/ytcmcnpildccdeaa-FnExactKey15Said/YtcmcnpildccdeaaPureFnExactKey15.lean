/- The law FnExactKey15: for every book of numbers and every frame the program's Key15 and the reference's tell the same, and the book stays as it was. -/
import Derived.Test.YtcmcnpildccdeaaPFnExactKey15x2
import Derived.Test.YtcmcnpildccdeaaKit
namespace Go.Proofs.Ytcmcnpildccdeaa.Pure
set_option linter.unusedSimpArgs false
set_option linter.unusedVariables false
open Go Go.RowKit Go.Proofs.Ytcmcnpildccdeaa.PFnExactKey15 Go.Proofs.YtcmcnpildccdeaaW.PrintWords Go.Proofs.YtcmcnpildccdeaaW.PrintLast Go.Proofs.Ytcmcnpildccdeaa.Mine

theorem toIntS_ev (x0 : List Int) (hn : x0.length ≤ 1048576) : Ev (fun k => laws_toIntS.f k x0) x0 := by
  have key : ∀ (d : Nat) (x3 : List Int) (i : Nat), x0.length - i = d → i ≤ x0.length → x3.length = x0.length → x3.take i = x0.take i → Ev (fun k => laws_toIntS.l0 k x0 x3 (i : Int)) x0 := by
    intro d
    induction d with
    | zero =>
      intro x3 i hd hi hl ht
      have e : x3 = x0 := by
        have h : i = x0.length := by omega
        rw [h, List.take_length, ← hl, List.take_length] at ht
        exact ht
      subst e
      refine ev_unroll ?_
      simp (disch := omega) only [laws_toIntS.l0, ↓if_neg]
      exact Ev.now _
    | succ d ih =>
      intro x3 i hd hi hl ht
      refine ev_unroll ?_
      simp (disch := omega) only [laws_toIntS.l0, ↓if_pos, w64]
      have h := ih (x3.set i (rd x0 i)) (i + 1) (by omega) (by omega) (by simp [hl]) (by rw [rd_nat]; exact take_set_succ 0 hl ht (by omega))
      simpa using h
  have h := key _ (List.replicate x0.length 0) 0 rfl (by omega) (by simp) (by simp)
  simp (disch := omega) only [laws_toIntS.f, ↓if_pos]
  simpa using h
theorem eqIntS_ev (x0 : List Int) (hn : x0.length ≤ 1048576) : Ev (fun k => laws_eqIntS.f k x0 x0) true := by
  have key : ∀ (d : Nat) (i : Nat), x0.length - i = d → i ≤ x0.length → Ev (fun k => laws_eqIntS.l0 k x0 x0 (i : Int)) true := by
    intro d
    induction d with
    | zero =>
      intro i hd hi
      refine ev_unroll ?_
      simp (disch := omega) only [laws_eqIntS.l0, ↓if_neg]
      exact Ev.now _
    | succ d ih =>
      intro i hd hi
      refine ev_unroll ?_
      simp (disch := omega) only [laws_eqIntS.l0, ↓if_pos, w64]
      have h := ih (i + 1) (by omega) (by omega)
      simpa using h
  have h := key _ 0 rfl (by omega)
  simp (disch := omega) only [laws_eqIntS.f, ↓if_pos]
  simpa using h
theorem in_t {a b c : Int} (h : b ≤ a) (h2 : a ≤ c) : impl_in.f a b c = some true := by
  unfold impl_in.f
  rw [if_pos (by omega)]; simp [h2]
theorem in_f {a b c : Int} (h : ¬ (b ≤ a ∧ a ≤ c)) : impl_in.f a b c = some false := by
  unfold impl_in.f
  by_cases g : a ≥ b
  · rw [if_pos g]; simp; omega
  · rw [if_neg g]
theorem l1In_t {a b c : Int} (h : b ≤ a) (h2 : a ≤ c) : spec_l1In.f a b c = some true := by
  unfold spec_l1In.f
  rw [if_pos (by omega)]; simp [h2]
theorem l1In_f {a b c : Int} (h : ¬ (b ≤ a ∧ a ≤ c)) : spec_l1In.f a b c = some false := by
  unfold spec_l1In.f
  by_cases g : a ≥ b
  · rw [if_pos g]; simp; omega
  · rw [if_neg g]
theorem key_both (x0 : List Int) (a1 : Int) (hn : x0.length ≤ 1048576) : ∃ r : Int × Bool, (r.2 = true → 0 < r.1 ∧ r.1 < 65536) ∧ Ev (fun k => spec_Key15.f k x0 a1) r ∧ Ev (fun k => impl_Key15.f k x0 a1) r := by
  by_cases h1 : 1 ≤ (x0.length : Int) ∧ (x0.length : Int) ≤ 64
  · by_cases h2 : 0 ≤ a1 ∧ a1 ≤ 1000000
    · have hm0 : 0 ≤ a1 % (x0.length : Int) := Int.emod_nonneg _ (by omega)
      have hm1 : a1 % (x0.length : Int) < (x0.length : Int) := Int.emod_lt_of_pos _ (by omega)
      have key : ∀ (d : Nat) (i : Int), (x0.length : Int) - i ≤ d → 0 ≤ i → (∀ j, 0 ≤ j → j < i → 1 ≤ rd x0 j ∧ rd x0 j ≤ 65535) →
          ∃ r : Int × Bool, (r.2 = true → 0 < r.1 ∧ r.1 < 65536) ∧ Ev (fun k => spec_Key15.l0 k x0 a1 i) r ∧ Ev (fun k => impl_Key15.l0 k x0 a1 x0 (x0.length : Int) i) r := by
        have last : ∀ i : Int, (x0.length : Int) ≤ i → (∀ j, 0 ≤ j → j < i → 1 ≤ rd x0 j ∧ rd x0 j ≤ 65535) → ∃ r : Int × Bool, (r.2 = true → 0 < r.1 ∧ r.1 < 65536) ∧ Ev (fun k => spec_Key15.l0 k x0 a1 i) r ∧ Ev (fun k => impl_Key15.l0 k x0 a1 x0 (x0.length : Int) i) r := by
          intro i hi hv
          have hw := hv _ hm0 (by omega)
          have hx := xor64_lt (a := rd x0 (a1 % (x0.length : Int))) (b := a1 % 65536) 16 (by omega) (by omega) (by omega) (by omega) (by omega)
          by_cases hz : Go.bits .xor .i64 (rd x0 (a1 % (x0.length : Int))) (a1 % 65536) = 0
          · refine ⟨(1, true), fun _ => by simp, ev_unroll ?_, ev_unroll ?_⟩
            · simp (disch := omega) only [spec_Key15.l0, ↓if_pos, ↓if_neg, if_pos, if_neg, ↓reduceIte, w64, in_t, in_f, l1In_t, l1In_f, Option.bind_some, Bool.not_true, Bool.not_false, Bool.false_eq_true, tmod_nonneg, tdiv_nonneg]
              exact Ev.now _
            · simp (disch := omega) only [impl_Key15.l0, ↓if_pos, ↓if_neg, if_pos, if_neg, ↓reduceIte, w64, in_t, in_f, l1In_t, l1In_f, Option.bind_some, Bool.not_true, Bool.not_false, Bool.false_eq_true, tmod_nonneg, tdiv_nonneg]
              exact Ev.now _
          · refine ⟨(Go.bits .xor .i64 (rd x0 (a1 % (x0.length : Int))) (a1 % 65536), true), fun _ => ⟨by simp only; omega, by simp only; omega⟩, ev_unroll ?_, ev_unroll ?_⟩
            · simp (disch := omega) only [spec_Key15.l0, ↓if_pos, ↓if_neg, if_pos, if_neg, ↓reduceIte, w64, in_t, in_f, l1In_t, l1In_f, Option.bind_some, Bool.not_true, Bool.not_false, Bool.false_eq_true, tmod_nonneg, tdiv_nonneg]
              exact Ev.now _
            · simp (disch := omega) only [impl_Key15.l0, ↓if_pos, ↓if_neg, if_pos, if_neg, ↓reduceIte, w64, in_t, in_f, l1In_t, l1In_f, Option.bind_some, Bool.not_true, Bool.not_false, Bool.false_eq_true, tmod_nonneg, tdiv_nonneg]
              exact Ev.now _
        intro d
        induction d with
        | zero => exact fun i hd h0 hv => last i (by omega) hv
        | succ d ih =>
          intro i hd h0 hv
          by_cases hlt : i < (x0.length : Int)
          · by_cases hin : 1 ≤ rd x0 i ∧ rd x0 i ≤ 65535
            · obtain ⟨r, o, p, q⟩ := ih (i + 1) (by omega) (by omega) (fun j j0 j1 => by
                by_cases e : j = i
                · rw [e]; exact hin
                · exact hv j j0 (by omega))
              refine ⟨r, o, ev_unroll ?_, ev_unroll ?_⟩
              · simp (disch := omega) only [spec_Key15.l0, ↓if_pos, ↓if_neg, if_pos, if_neg, ↓reduceIte, w64, in_t, in_f, l1In_t, l1In_f, Option.bind_some, Bool.not_true, Bool.not_false, Bool.false_eq_true, tmod_nonneg, tdiv_nonneg]
                exact p
              · simp (disch := omega) only [impl_Key15.l0, ↓if_pos, ↓if_neg, if_pos, if_neg, ↓reduceIte, w64, in_t, in_f, l1In_t, l1In_f, Option.bind_some, Bool.not_true, Bool.not_false, Bool.false_eq_true, tmod_nonneg, tdiv_nonneg]
                exact q
            · refine ⟨(0, false), fun h => by simp at h, ev_unroll ?_, ev_unroll ?_⟩
              · simp (disch := omega) only [spec_Key15.l0, ↓if_pos, ↓if_neg, if_pos, if_neg, ↓reduceIte, w64, in_t, in_f, l1In_t, l1In_f, Option.bind_some, Bool.not_true, Bool.not_false, Bool.false_eq_true, tmod_nonneg, tdiv_nonneg]
                exact Ev.now _
              · simp (disch := omega) only [impl_Key15.l0, ↓if_pos, ↓if_neg, if_pos, if_neg, ↓reduceIte, w64, in_t, in_f, l1In_t, l1In_f, Option.bind_some, Bool.not_true, Bool.not_false, Bool.false_eq_true, tmod_nonneg, tdiv_nonneg]
                exact Ev.now _
          · exact last i (by omega) hv
      obtain ⟨r, o, p, q⟩ := key x0.length 0 (by omega) (by omega) (fun j j0 j1 => by omega)
      refine ⟨r, o, ?_, ?_⟩
      · simp (disch := omega) only [spec_Key15.f, ↓if_pos, ↓if_neg, if_pos, if_neg, ↓reduceIte, w64, in_t, in_f, l1In_t, l1In_f, Option.bind_some, Bool.not_true, Bool.not_false, Bool.false_eq_true, tmod_nonneg, tdiv_nonneg]
        refine ev_unroll ?_
        simp (disch := omega) only [spec_Key15.j0, ↓if_pos, ↓if_neg, if_pos, if_neg, ↓reduceIte, w64, in_t, in_f, l1In_t, l1In_f, Option.bind_some, Bool.not_true, Bool.not_false, Bool.false_eq_true, tmod_nonneg, tdiv_nonneg]
        exact p
      · simp (disch := omega) only [impl_Key15.f, ↓if_pos, ↓if_neg, if_pos, if_neg, ↓reduceIte, w64, in_t, in_f, l1In_t, l1In_f, Option.bind_some, Bool.not_true, Bool.not_false, Bool.false_eq_true, tmod_nonneg, tdiv_nonneg]
        refine ev_unroll ?_
        simp (disch := omega) only [impl_Key15.j0, ↓if_pos, ↓if_neg, if_pos, if_neg, ↓reduceIte, w64, in_t, in_f, l1In_t, l1In_f, Option.bind_some, Bool.not_true, Bool.not_false, Bool.false_eq_true, tmod_nonneg, tdiv_nonneg]
        exact q
    · refine ⟨(0, false), fun h => by simp at h, ?_, ?_⟩
      · simp (disch := omega) only [spec_Key15.f, ↓if_pos, ↓if_neg, if_pos, if_neg, ↓reduceIte, w64, in_t, in_f, l1In_t, l1In_f, Option.bind_some, Bool.not_true, Bool.not_false, Bool.false_eq_true, tmod_nonneg, tdiv_nonneg]
        refine ev_unroll ?_
        simp (disch := omega) only [spec_Key15.j0, ↓if_pos, ↓if_neg, if_pos, if_neg, ↓reduceIte, w64, in_t, in_f, l1In_t, l1In_f, Option.bind_some, Bool.not_true, Bool.not_false, Bool.false_eq_true, tmod_nonneg, tdiv_nonneg]
        exact Ev.now _
      · simp (disch := omega) only [impl_Key15.f, ↓if_pos, ↓if_neg, if_pos, if_neg, ↓reduceIte, w64, in_t, in_f, l1In_t, l1In_f, Option.bind_some, Bool.not_true, Bool.not_false, Bool.false_eq_true, tmod_nonneg, tdiv_nonneg]
        refine ev_unroll ?_
        simp (disch := omega) only [impl_Key15.j0, ↓if_pos, ↓if_neg, if_pos, if_neg, ↓reduceIte, w64, in_t, in_f, l1In_t, l1In_f, Option.bind_some, Bool.not_true, Bool.not_false, Bool.false_eq_true, tmod_nonneg, tdiv_nonneg]
        exact Ev.now _
  · refine ⟨(0, false), fun h => by simp at h, ?_, ?_⟩
    · simp (disch := omega) only [spec_Key15.f, ↓if_pos, ↓if_neg, if_pos, if_neg, ↓reduceIte, w64, in_t, in_f, l1In_t, l1In_f, Option.bind_some, Bool.not_true, Bool.not_false, Bool.false_eq_true, tmod_nonneg, tdiv_nonneg]
      refine ev_unroll ?_
      simp (disch := omega) only [spec_Key15.j0, ↓if_pos, ↓if_neg, if_pos, if_neg, ↓reduceIte, w64, in_t, in_f, l1In_t, l1In_f, Option.bind_some, Bool.not_true, Bool.not_false, Bool.false_eq_true, tmod_nonneg, tdiv_nonneg]
      exact Ev.now _
    · simp (disch := omega) only [impl_Key15.f, ↓if_pos, ↓if_neg, if_pos, if_neg, ↓reduceIte, w64, in_t, in_f, l1In_t, l1In_f, Option.bind_some, Bool.not_true, Bool.not_false, Bool.false_eq_true, tmod_nonneg, tdiv_nonneg]
      refine ev_unroll ?_
      simp (disch := omega) only [impl_Key15.j0, ↓if_pos, ↓if_neg, if_pos, if_neg, ↓reduceIte, w64, in_t, in_f, l1In_t, l1In_f, Option.bind_some, Bool.not_true, Bool.not_false, Bool.false_eq_true, tmod_nonneg, tdiv_nonneg]
      exact Ev.now _
theorem FnExactKey15 : laws_FnExactKey15.Pure := by
  intro l0 a1 _ _ _ _
  refine Ev.rounds (g := fun k => laws_FnExactKey15.f k l0 a1) ?_
  by_cases hb : (l0.length : Int) > 1048576
  · simp only [laws_FnExactKey15.f, if_pos hb]
    exact Ev.now _
  simp only [laws_FnExactKey15.f, if_neg hb]
  have hn : l0.length ≤ 1048576 := by omega
  have ht := toIntS_ev l0 hn
  obtain ⟨r, _, hs, hi⟩ := key_both l0 a1 hn
  refine Ev.bind ht (Ev.bind hs (Ev.bind ht (Ev.bind hi ?_)))
  simp only [↓reduceIte, bne_self_eq_false]
  refine ev_unroll ?_
  simp only [laws_FnExactKey15.j0, Bool.false_eq_true, ↓reduceIte]
  refine Ev.bind ht (Ev.bind (eqIntS_ev l0 hn) ?_)
  simp only [↓reduceIte]
  exact Ev.now _

end Go.Proofs.Ytcmcnpildccdeaa.Pure
