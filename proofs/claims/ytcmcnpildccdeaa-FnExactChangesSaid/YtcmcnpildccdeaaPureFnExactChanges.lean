/- The law FnExactChanges: for every list of numbers the program's Changes and the reference's tell the same, and the list stays as it was. -/
import Derived.Test.YtcmcnpildccdeaaPFnExactChangesx2
import Derived.Test.YtcmcnpildccdeaaKit
namespace Go.Proofs.Ytcmcnpildccdeaa.Pure
set_option linter.unusedSimpArgs false
set_option linter.unusedVariables false
open Go Go.RowKit Go.Proofs.Ytcmcnpildccdeaa.PFnExactChanges Go.Proofs.YtcmcnpildccdeaaW.PrintWords Go.Proofs.YtcmcnpildccdeaaW.PrintLast Go.Proofs.Ytcmcnpildccdeaa.Mine

theorem toIntS_ev (x0 : List Int) (hn : x0.length ≤ 1048576) : Ev (fun k => laws_toIntS.f k x0) x0 := by
  have key : ∀ (d : Nat) (x3 : List Int) (i : Nat), x0.length - i = d → i ≤ x0.length → x3.length = x0.length → x3.take i = x0.take i → Ev (fun k => laws_toIntS.l0 k x0 x3 (i : Int)) x0 := by
    intro d
    induction d with
    | zero =>
      intro x3 i hd hi hl ht
      have e : x3 = x0 := by
        have h : i = x0.length := by omega
        rw [h, List.take_length, ← hl, List.take_length] at ht
        exact ht
      subst e
      refine ev_unroll ?_
      simp (disch := omega) only [laws_toIntS.l0, ↓if_neg]
      exact Ev.now _
    | succ d ih =>
      intro x3 i hd hi hl ht
      refine ev_unroll ?_
      simp (disch := omega) only [laws_toIntS.l0, ↓if_pos, w64]
      have h := ih (x3.set i (rd x0 i)) (i + 1) (by omega) (by omega) (by simp [hl]) (by rw [rd_nat]; exact take_set_succ 0 hl ht (by omega))
      simpa using h
  have h := key _ (List.replicate x0.length 0) 0 rfl (by omega) (by simp) (by simp)
  simp (disch := omega) only [laws_toIntS.f, ↓if_pos]
  simpa using h
theorem eqIntS_ev (x0 : List Int) (hn : x0.length ≤ 1048576) : Ev (fun k => laws_eqIntS.f k x0 x0) true := by
  have key : ∀ (d : Nat) (i : Nat), x0.length - i = d → i ≤ x0.length → Ev (fun k => laws_eqIntS.l0 k x0 x0 (i : Int)) true := by
    intro d
    induction d with
    | zero =>
      intro i hd hi
      refine ev_unroll ?_
      simp (disch := omega) only [laws_eqIntS.l0, ↓if_neg]
      exact Ev.now _
    | succ d ih =>
      intro i hd hi
      refine ev_unroll ?_
      simp (disch := omega) only [laws_eqIntS.l0, ↓if_pos, w64]
      have h := ih (i + 1) (by omega) (by omega)
      simpa using h
  have h := key _ 0 rfl (by omega)
  simp (disch := omega) only [laws_eqIntS.f, ↓if_pos]
  simpa using h
theorem changes_both (x0 : List Int) (hn : x0.length ≤ 1048576) : ∃ r, Ev (fun k => spec_Changes.f k x0) r ∧ Ev (fun k => impl_Changes.f k x0) r := by
  have key : ∀ (d : Nat) (i n lst ls ls' : Int), (x0.length : Int) - i ≤ d → 1 ≤ i → i ≤ 1048578 → 0 ≤ n → n ≤ i → -1 ≤ ls → ls ≤ i → 0 ≤ ls' → ls' ≤ i → (0 < n → ls = ls') →
      ∃ r, Ev (fun k => spec_Changes.l0 k x0 n lst ls i) r ∧ Ev (fun k => impl_Changes.l0 k x0 n ls' lst i) r := by
    intro d
    induction d with
    | zero =>
      intro i n lst ls ls' hd h1 h2 h3 h4 h5 h6 h7 h8 h9
      refine ⟨(n, lst), ev_unroll ?_, ev_unroll ?_⟩
      · simp (disch := omega) only [spec_Changes.l0, ↓if_pos, ↓if_neg, if_pos, if_neg, ↓reduceIte, w64, Option.bind_some, Bool.not_true, Bool.not_false, Bool.false_eq_true, tmod_nonneg, tdiv_nonneg]
        exact Ev.now _
      · simp (disch := omega) only [impl_Changes.l0, ↓if_pos, ↓if_neg, if_pos, if_neg, ↓reduceIte, w64, Option.bind_some, Bool.not_true, Bool.not_false, Bool.false_eq_true, tmod_nonneg, tdiv_nonneg]
        exact Ev.now _
    | succ d ih =>
      intro i n lst ls ls' hd h1 h2 h3 h4 h5 h6 h7 h8 h9
      by_cases hlt : i < (x0.length : Int)
      · by_cases hx : rd x0 i = rd x0 (i - 1)
        · obtain ⟨r, p, q⟩ := ih (i + 1) n lst ls ls' (by omega) (by omega) (by omega) (by omega) (by omega) (by omega) (by omega) (by omega) (by omega) h9
          refine ⟨r, ev_unroll ?_, ev_unroll ?_⟩
          · simp (disch := omega) only [spec_Changes.l0, ↓if_pos, ↓if_neg, if_pos, if_neg, ↓reduceIte, w64, Option.bind_some, Bool.not_true, Bool.not_false, Bool.false_eq_true, tmod_nonneg, tdiv_nonneg]
            exact p
          · simp (disch := omega) only [impl_Changes.l0, ↓if_pos, ↓if_neg, if_pos, if_neg, ↓reduceIte, w64, Option.bind_some, Bool.not_true, Bool.not_false, Bool.false_eq_true, tmod_nonneg, tdiv_nonneg]
            exact q
        · by_cases hn0 : 0 < n
          · obtain rfl := h9 hn0
            by_cases hz : lst = 0
            · obtain ⟨r, p, q⟩ := ih (i + 1) (n + 1) (i - ls) i i (by omega) (by omega) (by omega) (by omega) (by omega) (by omega) (by omega) (by omega) (by omega) (fun _ => rfl)
              refine ⟨r, ev_unroll ?_, ev_unroll ?_⟩
              · simp (disch := omega) only [spec_Changes.l0, ↓if_pos, ↓if_neg, if_pos, if_neg, ↓reduceIte, w64, Option.bind_some, Bool.not_true, Bool.not_false, Bool.false_eq_true, tmod_nonneg, tdiv_nonneg]
                exact p
              · simp (disch := omega) only [impl_Changes.l0, ↓if_pos, ↓if_neg, if_pos, if_neg, ↓reduceIte, w64, Option.bind_some, Bool.not_true, Bool.not_false, Bool.false_eq_true, tmod_nonneg, tdiv_nonneg]
                exact q
            · by_cases hy : i - ls < lst
              · obtain ⟨r, p, q⟩ := ih (i + 1) (n + 1) (i - ls) i i (by omega) (by omega) (by omega) (by omega) (by omega) (by omega) (by omega) (by omega) (by omega) (fun _ => rfl)
                refine ⟨r, ev_unroll ?_, ev_unroll ?_⟩
                · simp (disch := omega) only [spec_Changes.l0, ↓if_pos, ↓if_neg, if_pos, if_neg, ↓reduceIte, w64, Option.bind_some, Bool.not_true, Bool.not_false, Bool.false_eq_true, tmod_nonneg, tdiv_nonneg]
                  exact p
                · simp (disch := omega) only [impl_Changes.l0, ↓if_pos, ↓if_neg, if_pos, if_neg, ↓reduceIte, w64, Option.bind_some, Bool.not_true, Bool.not_false, Bool.false_eq_true, tmod_nonneg, tdiv_nonneg]
                  exact q
              · obtain ⟨r, p, q⟩ := ih (i + 1) (n + 1) lst i i (by omega) (by omega) (by omega) (by omega) (by omega) (by omega) (by omega) (by omega) (by omega) (fun _ => rfl)
                refine ⟨r, ev_unroll ?_, ev_unroll ?_⟩
                · simp (disch := omega) only [spec_Changes.l0, ↓if_pos, ↓if_neg, if_pos, if_neg, ↓reduceIte, w64, Option.bind_some, Bool.not_true, Bool.not_false, Bool.false_eq_true, tmod_nonneg, tdiv_nonneg]
                  exact p
                · simp (disch := omega) only [impl_Changes.l0, ↓if_pos, ↓if_neg, if_pos, if_neg, ↓reduceIte, w64, Option.bind_some, Bool.not_true, Bool.not_false, Bool.false_eq_true, tmod_nonneg, tdiv_nonneg]
                  exact q
          · obtain ⟨r, p, q⟩ := ih (i + 1) (n + 1) lst i i (by omega) (by omega) (by omega) (by omega) (by omega) (by omega) (by omega) (by omega) (by omega) (fun _ => rfl)
            refine ⟨r, ev_unroll ?_, ev_unroll ?_⟩
            · simp (disch := omega) only [spec_Changes.l0, ↓if_pos, ↓if_neg, if_pos, if_neg, ↓reduceIte, w64, Option.bind_some, Bool.not_true, Bool.not_false, Bool.false_eq_true, tmod_nonneg, tdiv_nonneg]
              exact p
            · simp (disch := omega) only [impl_Changes.l0, ↓if_pos, ↓if_neg, if_pos, if_neg, ↓reduceIte, w64, Option.bind_some, Bool.not_true, Bool.not_false, Bool.false_eq_true, tmod_nonneg, tdiv_nonneg]
              exact q
      · refine ⟨(n, lst), ev_unroll ?_, ev_unroll ?_⟩
        · simp (disch := omega) only [spec_Changes.l0, ↓if_pos, ↓if_neg, if_pos, if_neg, ↓reduceIte, w64, Option.bind_some, Bool.not_true, Bool.not_false, Bool.false_eq_true, tmod_nonneg, tdiv_nonneg]
          exact Ev.now _
        · simp (disch := omega) only [impl_Changes.l0, ↓if_pos, ↓if_neg, if_pos, if_neg, ↓reduceIte, w64, Option.bind_some, Bool.not_true, Bool.not_false, Bool.false_eq_true, tmod_nonneg, tdiv_nonneg]
          exact Ev.now _
  obtain ⟨r, p, q⟩ := key x0.length 1 0 0 (-1) 0 (by omega) (by omega) (by omega) (by omega) (by omega) (by omega) (by omega) (by omega) (by omega) (by omega)
  exact ⟨r, p, q⟩
theorem FnExactChanges : laws_FnExactChanges.Pure := by
  intro l0 _ _ _
  refine Ev.rounds (g := fun k => laws_FnExactChanges.f k l0) ?_
  by_cases hb : (l0.length : Int) > 1048576
  · simp only [laws_FnExactChanges.f, if_pos hb]
    exact Ev.now _
  simp only [laws_FnExactChanges.f, if_neg hb]
  have hn : l0.length ≤ 1048576 := by omega
  have ht := toIntS_ev l0 hn
  obtain ⟨r, hs, hi⟩ := changes_both l0 hn
  refine Ev.bind ht (Ev.bind hs (Ev.bind ht (Ev.bind hi ?_)))
  simp only [↓reduceIte, bne_self_eq_false]
  refine ev_unroll ?_
  simp only [laws_FnExactChanges.j0, Bool.false_eq_true, ↓reduceIte]
  refine Ev.bind ht (Ev.bind (eqIntS_ev l0 hn) ?_)
  simp only [↓reduceIte]
  exact Ev.now _

end Go.Proofs.Ytcmcnpildccdeaa.Pure
