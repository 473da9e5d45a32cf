/- The law FnExactHop: for all three numbers the program's Hop and the reference's tell the same. -/
import Derived.Test.YtcmcnpildccdeaaPFnExactHopx1
import Derived.Test.YtcmcnpildccdeaaKit
namespace Go.Proofs.Ytcmcnpildccdeaa.Pure
set_option linter.unusedSimpArgs false
set_option linter.unusedVariables false
open Go Go.RowKit Go.Proofs.Ytcmcnpildccdeaa.PFnExactHop Go.Proofs.YtcmcnpildccdeaaW.PrintWords Go.Proofs.YtcmcnpildccdeaaW.PrintLast Go.Proofs.Ytcmcnpildccdeaa.Mine

theorem in_t {a b c : Int} (h : b ≤ a) (h2 : a ≤ c) : impl_in.f a b c = some true := by
  unfold impl_in.f
  rw [if_pos (by omega)]; simp [h2]
theorem in_f {a b c : Int} (h : ¬ (b ≤ a ∧ a ≤ c)) : impl_in.f a b c = some false := by
  unfold impl_in.f
  by_cases g : a ≥ b
  · rw [if_pos g]; simp; omega
  · rw [if_neg g]
theorem l1In_t {a b c : Int} (h : b ≤ a) (h2 : a ≤ c) : spec_l1In.f a b c = some true := by
  unfold spec_l1In.f
  rw [if_pos (by omega)]; simp [h2]
theorem l1In_f {a b c : Int} (h : ¬ (b ≤ a ∧ a ≤ c)) : spec_l1In.f a b c = some false := by
  unfold spec_l1In.f
  by_cases g : a ≥ b
  · rw [if_pos g]; simp; omega
  · rw [if_neg g]
theorem FnExactHop : laws_FnExactHop.Pure := by
  intro a0 a1 a2 _ _ _
  have e : impl_Hop.f a0 a1 a2 = spec_Hop.f a0 a1 a2 := rfl
  obtain ⟨r, hr⟩ : ∃ r, spec_Hop.f a0 a1 a2 = some r := by
    unfold spec_Hop.f
    by_cases h0 : 0 ≤ a0 ∧ a0 ≤ 65535
    · by_cases h1 : 0 ≤ a1 ∧ a1 ≤ 1000000
      · by_cases h2 : 1 ≤ a2 ∧ a2 ≤ 64
        · rw [l1In_t h0.1 h0.2, l1In_t h1.1 h1.2, l1In_t h2.1 h2.2]; exact ⟨_, rfl⟩
        · rw [l1In_t h0.1 h0.2, l1In_t h1.1 h1.2, l1In_f h2]; exact ⟨_, rfl⟩
      · rw [l1In_t h0.1 h0.2, l1In_f h1]; exact ⟨_, rfl⟩
    · rw [l1In_f h0]; exact ⟨_, rfl⟩
  unfold laws_FnExactHop.f
  rw [e, hr]
  simp

end Go.Proofs.Ytcmcnpildccdeaa.Pure
