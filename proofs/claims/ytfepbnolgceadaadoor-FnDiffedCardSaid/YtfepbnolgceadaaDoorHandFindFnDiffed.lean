/- impl.Find19: what it answers, and that the code comes to it. -/
import Derived.Test.YtfepbnolgceadaaDoorHandMapDFnDiffed
namespace Go.Proofs.YtfepbnolgceadaaDoor.MFnDiffed
open Go.Proofs.YtfepbnolgceadaaDoor
open Go Go.RowKit Go.Maps Go.WideMaps Go.Proofs.YtfepbnolgceadaaDoor.Mine Go.Proofs.YtfepbnolgceadaaDoorW.PrintWords Go.Proofs.YtfepbnolgceadaaDoorW.PrintLast Go.Proofs.YtfepbnolgceadaaDoorW.PrintMore
attribute [local go_sem] max2_int min2_int max_two min_two max_three min_three max_four min_four
set_option linter.unusedVariables false
set_option linter.unusedSimpArgs false
namespace Hand
def FindOk (l : List S38) (n : ByteArray) : Prop := l.length ≤ 1048576 ∧ (∀ x ∈ l, x.f0.size ≤ maxLen ∧ x.f1.size ≤ maxLen) ∧ n.size ≤ maxLen
instance (l : List S38) (n : ByteArray) : Decidable (FindOk l n) := by unfold FindOk; exact inferInstance
set_option maxHeartbeats 4000000 in
set_option maxRecDepth 100000 in
theorem find_calls (k : Nat) (A0 : Option Addr) (c0 : Nat) (l0 : List S38) (a1 : ByteArray) (t : Bool) (w : World) (hT : Aside0 (Go.Proofs.YtfepbnolgceadaaDoor.Hand.Tabs w)) (hr0 : Kd.C k38 w A0 l0.length l0) (hc0 : l0.length ≤ c0) (c : FindOk l0 a1) (h1 : impl_SettingsOk.f k l0 = some t)
    (r1 : ByteArray) (r2 : Bool) (h2 : (if t = true then some (look l0 a1) else some ((⟨#[]⟩ : ByteArray), false)) = some (r1, r2)) :
    Calls Tryd.prog 14 #[.slice A0 l0.length c0, .string a1] w fun e w' => e = .returned (.tuple #[.string r1, .bool r2]) ∧ Below w.heap.size w w' := by
  have cS := impl_SettingsOk.calls k A0 c0 l0 t w hT hr0 hc0 h1
  cases t
  · simp only [Bool.false_eq_true, if_false, Option.some.injEq, Prod.mk.injEq] at h2
    obtain ⟨rfl, rfl⟩ := h2
    clear hr0 hT c h1
    go_enter Tryd.func14, Tryd.ntmps14
    go_wp2_with (first | (go_at_call 22; refine cS.mono ?_; rintro e w1 ⟨rfl, hb1⟩))
    go_ret2
    exact ⟨rfl, hb1⟩
  · simp only [if_true, Option.some.injEq] at h2
    have cM : ∀ w1 : World, Below w.heap.size w w1 → Calls Tryd.prog 23 #[.slice A0 l0.length c0] w1 fun e w' => e = .returned (.map (some w1.heap.size)) ∧ w'.ownsMap Tryd.prog 9 (plainElem (H := Unit) Tryd.prog 9) w1.heap.size l0.length (mapD l0) ∧ Below w1.heap.size w1 w' :=
      fun w1 hb => mapOf_calls A0 c0 l0 w1 (Kd.C_below hr0 hb) c.1 c.2.1
    have CM := Aside0.mk cM
    have hkey : keyOf Tryd.prog 9 (.string a1) = some (.string a1.data.toList) := keyOf_string_mk Tryd.underlying9 c.2.2
    have LS := Aside0.mk (look_spec a1 l0)
    rw [h2] at LS
    have hz0 : plainElem (H := Unit) Tryd.prog 9 (.string ⟨#[]⟩) = some (.lit (.string []), []) := plainElem_string Tryd.underlying9 (by decide)
    clear hr0 hT c h1 cM h2
    go_enter Tryd.func14, Tryd.ntmps14
    go_wp2_with (first
      | (go_at_call 22; refine cS.mono ?_; rintro e w1 ⟨rfl, hb1⟩)
      | (go_at_call 23; refine (CM.out _ hb1).mono ?_; rintro e w2 ⟨rfl, hown, hb2⟩)
      | (at_lookup; refine wpList_lookup_own_ok _ rfl _ _ 45 rfl 9 9 law9 Tryd.underlying45 (plainElem (H := Unit) Tryd.prog 9) (zero9 _) _ [] hz0 _ _ _ rfl hown _ _ rfl hkey ?_; intro v ps hv; rw [LS.out.1] at hv; rw [LS.out.2]; obtain ⟨s, rfl, hz, hsz⟩ := plainElem_string_inv Tryd.underlying9 hv; obtain rfl : r1 = s := bytes_ext (by injection (congrArg Prod.fst hz) with e0; injection e0); clear hv hz))
    go_ret2
    exact ⟨rfl, hb1.trans (hb2.mono hb1.size)⟩
end Hand
end Go.Proofs.YtfepbnolgceadaaDoor.MFnDiffed
