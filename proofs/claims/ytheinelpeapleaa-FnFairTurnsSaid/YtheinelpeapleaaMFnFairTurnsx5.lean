/- The functions that the law FnFairTurns reaches, as plain functions, and that the code comes to them. Begun as a text of the print over stubs; turned by wip/handstub.py and wip/mend.py. -/
import Derived.Test.YtheinelpeapleaaShortFnFairTurns
import Derived.Test.YtheinelpeapleaaMFnFairTurnsx0
import Derived.Test.YtheinelpeapleaaMFnFairTurnsx1
import Derived.Test.YtheinelpeapleaaMFnFairTurnsx2
import Derived.Test.YtheinelpeapleaaMFnFairTurnsx3
import Derived.Test.YtheinelpeapleaaMFnFairTurnsx4
namespace Go.Proofs.Ytheinelpeapleaa.MFnFairTurns
open Go.RowKit Go.Proofs.YtheinelpeapleaaW.PrintWords Go.Proofs.YtheinelpeapleaaW.PrintLast Go.Proofs.YtheinelpeapleaaW.PrintMore
attribute [local go_sem] max2_int min2_int max_two min_two max_three min_three max_four min_four   -- for this text's walks alone
set_option linter.unusedVariables false
set_option linter.unusedSimpArgs false

/-! ### laws_FnFairTurns: function 3 -/
mutual
def laws_FnFairTurns.j0 : Nat → List (List Int) → Int → List Int → Bool → Bool → Option (Bool)
 | 0, _, _, _, _, _ => none
 | k + 1, x3, x4, x5, x6, x48 => if x48 = true then (some false) else (if 0 ≤ (x3.length : Int) then (if ((x3.length : Int) : Int).toNat ≤ 35184372088832 then (laws_FnFairTurns.l0 k x3 x4 x5 x6 (([] : List (List Int))) (List.replicate ((x3.length : Int) : Int).toNat 0) 0) else (none)) else (none))
def laws_FnFairTurns.l0 : Nat → List (List Int) → Int → List Int → Bool → List (List Int) → List Int → Int → Option (Bool)
 | 0, _, _, _, _, _, _, _ => none
 | k + 1, x3, x4, x5, x6, x9, x10, x11 => if x11 < (x3.length : Int) then (laws_FnFairTurns.l1 k x3 x4 x5 x6 x9 x10 x11 (([] : List Int)) 0) else ((impl_Fair.f k x9 x4).bind fun bt245 => (if (bt245.2 != x6) = true then (laws_FnFairTurns.j3 k x3 x5 x10 bt245.1 true) else (laws_FnFairTurns.j3 k x3 x5 x10 bt245.1 ((bt245.1.length : Int) != (x5.length : Int)))))
def laws_FnFairTurns.l1 : Nat → List (List Int) → Int → List Int → Bool → List (List Int) → List Int → Int → List Int → Int → Option (Bool)
 | 0, _, _, _, _, _, _, _, _, _ => none
 | k + 1, x3, x4, x5, x6, x9, x10, x11, x12, x13 => if 0 ≤ x11 then (if x11 < (x3.length : Int) then (if x13 < ((rd_L2 x3 x11).length : Int) then (if x12.length < 17592186044416 then (laws_FnFairTurns.l1 k x3 x4 x5 x6 x9 x10 x11 (x12 ++ [x11]) (wrap64 (x13 + 1))) else (none)) else (if x9.length < 5864062014805 then (laws_FnFairTurns.l0 k x3 x4 x5 x6 (x9 ++ [x12]) x10 (wrap64 (x11 + 1))) else (none))) else (none)) else (none)
def laws_FnFairTurns.j3 : Nat → List (List Int) → List Int → List Int → List Int → Bool → Option (Bool)
 | 0, _, _, _, _, _ => none
 | k + 1, x3, x5, x10, x14, x92 => if x92 = true then (some false) else (laws_FnFairTurns.l2 k x3 x5 x10 x14 0)
def laws_FnFairTurns.l2 : Nat → List (List Int) → List Int → List Int → List Int → Int → Option (Bool)
 | 0, _, _, _, _, _ => none
 | k + 1, x3, x5, x10, x14, x16 => if x16 < (x14.length : Int) then (if 0 ≤ x16 then (if (rd x14 x16) < 0 then (laws_FnFairTurns.j5 k x3 x5 x10 x14 x16 (rd x14 x16) true) else (if (rd x14 x16) ≥ (x3.length : Int) then (laws_FnFairTurns.j5 k x3 x5 x10 x14 x16 (rd x14 x16) true) else (if 0 ≤ (rd x14 x16) then (if (rd x14 x16) < (x10.length : Int) then (if (rd x14 x16) < (x3.length : Int) then (if (rd x10 (rd x14 x16)) ≥ ((rd_L2 x3 (rd x14 x16)).length : Int) then (laws_FnFairTurns.j5 k x3 x5 x10 x14 x16 (rd x14 x16) true) else (if 0 ≤ (rd x10 (rd x14 x16)) then (if (rd x10 (rd x14 x16)) < ((rd_L2 x3 (rd x14 x16)).length : Int) then (if x16 < (x5.length : Int) then (laws_FnFairTurns.j5 k x3 x5 x10 x14 x16 (rd x14 x16) ((rd (rd_L2 x3 (rd x14 x16)) (rd x10 (rd x14 x16))) != (rd x5 x16))) else (none)) else (none)) else (none))) else (none)) else (none)) else (none)))) else (none)) else ((impl_Fair.f k (([(([1, 2] : List Int)), (([3] : List Int))] : List (List Int))) 3).bind fun bt258 => (if bt258.2 = true then ((laws_sameInts.f k bt258.1 (([1, 3, 2] : List Int))).bind fun t265 => (some t265)) else (some false)))
def laws_FnFairTurns.j5 : Nat → List (List Int) → List Int → List Int → List Int → Int → Int → Bool → Option (Bool)
 | 0, _, _, _, _, _, _, _ => none
 | k + 1, x3, x5, x10, x14, x16, x17, x139 => if x139 = true then (some false) else (if 0 ≤ x17 then (if x17 < (x10.length : Int) then (laws_FnFairTurns.l3 k x3 x5 (x10.set (x17 : Int).toNat (wrap64 ((rd x10 x17) + 1))) x14 x16 x17 0) else (none)) else (none))
def laws_FnFairTurns.l3 : Nat → List (List Int) → List Int → List Int → List Int → Int → Int → Int → Option (Bool)
 | 0, _, _, _, _, _, _, _ => none
 | k + 1, x3, x5, x10, x14, x16, x17, x18 => if x18 < (x3.length : Int) then (if 0 ≤ x17 then (if x17 < (x10.length : Int) then (if 0 ≤ x18 then (if x18 < (x10.length : Int) then (if (rd x10 x17) > (wrap64 ((rd x10 x18) + 1)) then (if (rd x10 x18) < ((rd_L2 x3 x18).length : Int) then (some false) else (laws_FnFairTurns.l3 k x3 x5 x10 x14 x16 x17 (wrap64 (x18 + 1)))) else (laws_FnFairTurns.l3 k x3 x5 x10 x14 x16 x17 (wrap64 (x18 + 1)))) else (none)) else (none)) else (none)) else (none)) else (laws_FnFairTurns.l2 k x3 x5 x10 x14 (wrap64 (x16 + 1)))
end
def laws_FnFairTurns.f (k : Nat) (l0 : List Int) : Option (Bool) := (laws_big.f l0).bind fun t215 => (if t215 = true then (some true) else ((spec_DrawFair.f k l0).bind fun bt216 => ((impl_Fair.f k bt216.1 bt216.2).bind fun bt220 => ((spec_Fair.f k bt216.1 bt216.2).bind fun bt224 => (if (bt220.2 != bt224.2) = true then (laws_FnFairTurns.j0 k bt216.1 bt216.2 bt220.1 bt220.2 true) else ((laws_sameInts.f k bt220.1 bt224.1).bind fun t228 => (laws_FnFairTurns.j0 k bt216.1 bt216.2 bt220.1 bt220.2 (!t228))))))))
theorem laws_FnFairTurns.mono_l : ∀ k, (∀ y0 y1 y2 y3 y4, LeO (laws_FnFairTurns.j0 k y0 y1 y2 y3 y4) (laws_FnFairTurns.j0 (k + 1) y0 y1 y2 y3 y4)) ∧ (∀ y0 y1 y2 y3 y4 y5 y6, LeO (laws_FnFairTurns.l0 k y0 y1 y2 y3 y4 y5 y6) (laws_FnFairTurns.l0 (k + 1) y0 y1 y2 y3 y4 y5 y6)) ∧ (∀ y0 y1 y2 y3 y4 y5 y6 y7 y8, LeO (laws_FnFairTurns.l1 k y0 y1 y2 y3 y4 y5 y6 y7 y8) (laws_FnFairTurns.l1 (k + 1) y0 y1 y2 y3 y4 y5 y6 y7 y8)) ∧ (∀ y0 y1 y2 y3 y4, LeO (laws_FnFairTurns.j3 k y0 y1 y2 y3 y4) (laws_FnFairTurns.j3 (k + 1) y0 y1 y2 y3 y4)) ∧ (∀ y0 y1 y2 y3 y4, LeO (laws_FnFairTurns.l2 k y0 y1 y2 y3 y4) (laws_FnFairTurns.l2 (k + 1) y0 y1 y2 y3 y4)) ∧ (∀ y0 y1 y2 y3 y4 y5 y6, LeO (laws_FnFairTurns.j5 k y0 y1 y2 y3 y4 y5 y6) (laws_FnFairTurns.j5 (k + 1) y0 y1 y2 y3 y4 y5 y6)) ∧ (∀ y0 y1 y2 y3 y4 y5 y6, LeO (laws_FnFairTurns.l3 k y0 y1 y2 y3 y4 y5 y6) (laws_FnFairTurns.l3 (k + 1) y0 y1 y2 y3 y4 y5 y6))
 | 0 => ⟨fun _ _ _ _ _ r h => by simp [laws_FnFairTurns.j0] at h, fun _ _ _ _ _ _ _ r h => by simp [laws_FnFairTurns.l0] at h, fun _ _ _ _ _ _ _ _ _ r h => by simp [laws_FnFairTurns.l1] at h, fun _ _ _ _ _ r h => by simp [laws_FnFairTurns.j3] at h, fun _ _ _ _ _ r h => by simp [laws_FnFairTurns.l2] at h, fun _ _ _ _ _ _ _ r h => by simp [laws_FnFairTurns.j5] at h, fun _ _ _ _ _ _ _ r h => by simp [laws_FnFairTurns.l3] at h⟩
 | k + 1 => by
  obtain ⟨ih0, ih1, ih2, ih3, ih4, ih5, ih6⟩ := laws_FnFairTurns.mono_l k
  refine ⟨?_, ?_, ?_, ?_, ?_, ?_, ?_⟩
  ·intro y0 y1 y2 y3 y4
   unfold laws_FnFairTurns.j0
   repeat' first
   | (with_reducible exact ih0 _ _ _ _ _)
   | (with_reducible exact ih1 _ _ _ _ _ _ _)
   | (with_reducible exact ih2 _ _ _ _ _ _ _ _ _)
   | (with_reducible exact ih3 _ _ _ _ _)
   | (with_reducible exact ih4 _ _ _ _ _)
   | (with_reducible exact ih5 _ _ _ _ _ _ _)
   | (with_reducible exact ih6 _ _ _ _ _ _ _)
   | (with_reducible exact impl_Fair.mono _ _ _)
   | (with_reducible exact laws_sameInts.mono _ _ _)
   | (with_reducible exact spec_DrawFair.mono _ _)
   | (with_reducible exact spec_Fair.mono _ _ _)
   | (with_reducible exact LeO.refl _)
   | (with_reducible exact LeO.none _)
   | (with_reducible refine LeO.ite ?_ ?_)
   | (with_reducible refine LeO.bind ?_ (fun _ => ?_))
   | exact ih0 _ _ _ _ _
   | exact ih1 _ _ _ _ _ _ _
   | exact ih2 _ _ _ _ _ _ _ _ _
   | exact ih3 _ _ _ _ _
   | exact ih4 _ _ _ _ _
   | exact ih5 _ _ _ _ _ _ _
   | exact ih6 _ _ _ _ _ _ _
   | exact impl_Fair.mono _ _ _
   | exact laws_sameInts.mono _ _ _
   | exact spec_DrawFair.mono _ _
   | exact spec_Fair.mono _ _ _
   | exact LeO.none _
   | refine LeO.ite ?_ ?_
   | refine LeO.bind ?_ (fun _ => ?_)
  ·intro y0 y1 y2 y3 y4 y5 y6
   unfold laws_FnFairTurns.l0
   repeat' first
   | (with_reducible exact ih0 _ _ _ _ _)
   | (with_reducible exact ih1 _ _ _ _ _ _ _)
   | (with_reducible exact ih2 _ _ _ _ _ _ _ _ _)
   | (with_reducible exact ih3 _ _ _ _ _)
   | (with_reducible exact ih4 _ _ _ _ _)
   | (with_reducible exact ih5 _ _ _ _ _ _ _)
   | (with_reducible exact ih6 _ _ _ _ _ _ _)
   | (with_reducible exact impl_Fair.mono _ _ _)
   | (with_reducible exact laws_sameInts.mono _ _ _)
   | (with_reducible exact spec_DrawFair.mono _ _)
   | (with_reducible exact spec_Fair.mono _ _ _)
   | (with_reducible exact LeO.refl _)
   | (with_reducible exact LeO.none _)
   | (with_reducible refine LeO.ite ?_ ?_)
   | (with_reducible refine LeO.bind ?_ (fun _ => ?_))
   | exact ih0 _ _ _ _ _
   | exact ih1 _ _ _ _ _ _ _
   | exact ih2 _ _ _ _ _ _ _ _ _
   | exact ih3 _ _ _ _ _
   | exact ih4 _ _ _ _ _
   | exact ih5 _ _ _ _ _ _ _
   | exact ih6 _ _ _ _ _ _ _
   | exact impl_Fair.mono _ _ _
   | exact laws_sameInts.mono _ _ _
   | exact spec_DrawFair.mono _ _
   | exact spec_Fair.mono _ _ _
   | exact LeO.none _
   | refine LeO.ite ?_ ?_
   | refine LeO.bind ?_ (fun _ => ?_)
  ·intro y0 y1 y2 y3 y4 y5 y6 y7 y8
   unfold laws_FnFairTurns.l1
   repeat' first
   | (with_reducible exact ih0 _ _ _ _ _)
   | (with_reducible exact ih1 _ _ _ _ _ _ _)
   | (with_reducible exact ih2 _ _ _ _ _ _ _ _ _)
   | (with_reducible exact ih3 _ _ _ _ _)
   | (with_reducible exact ih4 _ _ _ _ _)
   | (with_reducible exact ih5 _ _ _ _ _ _ _)
   | (with_reducible exact ih6 _ _ _ _ _ _ _)
   | (with_reducible exact impl_Fair.mono _ _ _)
   | (with_reducible exact laws_sameInts.mono _ _ _)
   | (with_reducible exact spec_DrawFair.mono _ _)
   | (with_reducible exact spec_Fair.mono _ _ _)
   | (with_reducible exact LeO.refl _)
   | (with_reducible exact LeO.none _)
   | (with_reducible refine LeO.ite ?_ ?_)
   | (with_reducible refine LeO.bind ?_ (fun _ => ?_))
   | exact ih0 _ _ _ _ _
   | exact ih1 _ _ _ _ _ _ _
   | exact ih2 _ _ _ _ _ _ _ _ _
   | exact ih3 _ _ _ _ _
   | exact ih4 _ _ _ _ _
   | exact ih5 _ _ _ _ _ _ _
   | exact ih6 _ _ _ _ _ _ _
   | exact impl_Fair.mono _ _ _
   | exact laws_sameInts.mono _ _ _
   | exact spec_DrawFair.mono _ _
   | exact spec_Fair.mono _ _ _
   | exact LeO.none _
   | refine LeO.ite ?_ ?_
   | refine LeO.bind ?_ (fun _ => ?_)
  ·intro y0 y1 y2 y3 y4
   unfold laws_FnFairTurns.j3
   repeat' first
   | (with_reducible exact ih0 _ _ _ _ _)
   | (with_reducible exact ih1 _ _ _ _ _ _ _)
   | (with_reducible exact ih2 _ _ _ _ _ _ _ _ _)
   | (with_reducible exact ih3 _ _ _ _ _)
   | (with_reducible exact ih4 _ _ _ _ _)
   | (with_reducible exact ih5 _ _ _ _ _ _ _)
   | (with_reducible exact ih6 _ _ _ _ _ _ _)
   | (with_reducible exact impl_Fair.mono _ _ _)
   | (with_reducible exact laws_sameInts.mono _ _ _)
   | (with_reducible exact spec_DrawFair.mono _ _)
   | (with_reducible exact spec_Fair.mono _ _ _)
   | (with_reducible exact LeO.refl _)
   | (with_reducible exact LeO.none _)
   | (with_reducible refine LeO.ite ?_ ?_)
   | (with_reducible refine LeO.bind ?_ (fun _ => ?_))
   | exact ih0 _ _ _ _ _
   | exact ih1 _ _ _ _ _ _ _
   | exact ih2 _ _ _ _ _ _ _ _ _
   | exact ih3 _ _ _ _ _
   | exact ih4 _ _ _ _ _
   | exact ih5 _ _ _ _ _ _ _
   | exact ih6 _ _ _ _ _ _ _
   | exact impl_Fair.mono _ _ _
   | exact laws_sameInts.mono _ _ _
   | exact spec_DrawFair.mono _ _
   | exact spec_Fair.mono _ _ _
   | exact LeO.none _
   | refine LeO.ite ?_ ?_
   | refine LeO.bind ?_ (fun _ => ?_)
  ·intro y0 y1 y2 y3 y4
   unfold laws_FnFairTurns.l2
   repeat' first
   | (with_reducible exact ih0 _ _ _ _ _)
   | (with_reducible exact ih1 _ _ _ _ _ _ _)
   | (with_reducible exact ih2 _ _ _ _ _ _ _ _ _)
   | (with_reducible exact ih3 _ _ _ _ _)
   | (with_reducible exact ih4 _ _ _ _ _)
   | (with_reducible exact ih5 _ _ _ _ _ _ _)
   | (with_reducible exact ih6 _ _ _ _ _ _ _)
   | (with_reducible exact impl_Fair.mono _ _ _)
   | (with_reducible exact laws_sameInts.mono _ _ _)
   | (with_reducible exact spec_DrawFair.mono _ _)
   | (with_reducible exact spec_Fair.mono _ _ _)
   | (with_reducible exact LeO.refl _)
   | (with_reducible exact LeO.none _)
   | (with_reducible refine LeO.ite ?_ ?_)
   | (with_reducible refine LeO.bind ?_ (fun _ => ?_))
   | exact ih0 _ _ _ _ _
   | exact ih1 _ _ _ _ _ _ _
   | exact ih2 _ _ _ _ _ _ _ _ _
   | exact ih3 _ _ _ _ _
   | exact ih4 _ _ _ _ _
   | exact ih5 _ _ _ _ _ _ _
   | exact ih6 _ _ _ _ _ _ _
   | exact impl_Fair.mono _ _ _
   | exact laws_sameInts.mono _ _ _
   | exact spec_DrawFair.mono _ _
   | exact spec_Fair.mono _ _ _
   | exact LeO.none _
   | refine LeO.ite ?_ ?_
   | refine LeO.bind ?_ (fun _ => ?_)
  ·intro y0 y1 y2 y3 y4 y5 y6
   unfold laws_FnFairTurns.j5
   repeat' first
   | (with_reducible exact ih0 _ _ _ _ _)
   | (with_reducible exact ih1 _ _ _ _ _ _ _)
   | (with_reducible exact ih2 _ _ _ _ _ _ _ _ _)
   | (with_reducible exact ih3 _ _ _ _ _)
   | (with_reducible exact ih4 _ _ _ _ _)
   | (with_reducible exact ih5 _ _ _ _ _ _ _)
   | (with_reducible exact ih6 _ _ _ _ _ _ _)
   | (with_reducible exact impl_Fair.mono _ _ _)
   | (with_reducible exact laws_sameInts.mono _ _ _)
   | (with_reducible exact spec_DrawFair.mono _ _)
   | (with_reducible exact spec_Fair.mono _ _ _)
   | (with_reducible exact LeO.refl _)
   | (with_reducible exact LeO.none _)
   | (with_reducible refine LeO.ite ?_ ?_)
   | (with_reducible refine LeO.bind ?_ (fun _ => ?_))
   | exact ih0 _ _ _ _ _
   | exact ih1 _ _ _ _ _ _ _
   | exact ih2 _ _ _ _ _ _ _ _ _
   | exact ih3 _ _ _ _ _
   | exact ih4 _ _ _ _ _
   | exact ih5 _ _ _ _ _ _ _
   | exact ih6 _ _ _ _ _ _ _
   | exact impl_Fair.mono _ _ _
   | exact laws_sameInts.mono _ _ _
   | exact spec_DrawFair.mono _ _
   | exact spec_Fair.mono _ _ _
   | exact LeO.none _
   | refine LeO.ite ?_ ?_
   | refine LeO.bind ?_ (fun _ => ?_)
  ·intro y0 y1 y2 y3 y4 y5 y6
   unfold laws_FnFairTurns.l3
   repeat' first
   | (with_reducible exact ih0 _ _ _ _ _)
   | (with_reducible exact ih1 _ _ _ _ _ _ _)
   | (with_reducible exact ih2 _ _ _ _ _ _ _ _ _)
   | (with_reducible exact ih3 _ _ _ _ _)
   | (with_reducible exact ih4 _ _ _ _ _)
   | (with_reducible exact ih5 _ _ _ _ _ _ _)
   | (with_reducible exact ih6 _ _ _ _ _ _ _)
   | (with_reducible exact impl_Fair.mono _ _ _)
   | (with_reducible exact laws_sameInts.mono _ _ _)
   | (with_reducible exact spec_DrawFair.mono _ _)
   | (with_reducible exact spec_Fair.mono _ _ _)
   | (with_reducible exact LeO.refl _)
   | (with_reducible exact LeO.none _)
   | (with_reducible refine LeO.ite ?_ ?_)
   | (with_reducible refine LeO.bind ?_ (fun _ => ?_))
   | exact ih0 _ _ _ _ _
   | exact ih1 _ _ _ _ _ _ _
   | exact ih2 _ _ _ _ _ _ _ _ _
   | exact ih3 _ _ _ _ _
   | exact ih4 _ _ _ _ _
   | exact ih5 _ _ _ _ _ _ _
   | exact ih6 _ _ _ _ _ _ _
   | exact impl_Fair.mono _ _ _
   | exact laws_sameInts.mono _ _ _
   | exact spec_DrawFair.mono _ _
   | exact spec_Fair.mono _ _ _
   | exact LeO.none _
   | refine LeO.ite ?_ ?_
   | refine LeO.bind ?_ (fun _ => ?_)
theorem laws_FnFairTurns.mono : ∀ a0 k, LeO (laws_FnFairTurns.f k a0) (laws_FnFairTurns.f (k + 1) a0) := by
 intro a0 k
 obtain ⟨ih0, ih1, ih2, ih3, ih4, ih5, ih6⟩ := laws_FnFairTurns.mono_l k
 unfold laws_FnFairTurns.f
 repeat' first
   | (with_reducible exact ih0 _ _ _ _ _)
   | (with_reducible exact ih1 _ _ _ _ _ _ _)
   | (with_reducible exact ih2 _ _ _ _ _ _ _ _ _)
   | (with_reducible exact ih3 _ _ _ _ _)
   | (with_reducible exact ih4 _ _ _ _ _)
   | (with_reducible exact ih5 _ _ _ _ _ _ _)
   | (with_reducible exact ih6 _ _ _ _ _ _ _)
   | (with_reducible exact impl_Fair.mono _ _ _)
   | (with_reducible exact laws_sameInts.mono _ _ _)
   | (with_reducible exact spec_DrawFair.mono _ _)
   | (with_reducible exact spec_Fair.mono _ _ _)
   | (with_reducible exact LeO.refl _)
   | (with_reducible exact LeO.none _)
   | (with_reducible refine LeO.ite ?_ ?_)
   | (with_reducible refine LeO.bind ?_ (fun _ => ?_))
   | exact ih0 _ _ _ _ _
   | exact ih1 _ _ _ _ _ _ _
   | exact ih2 _ _ _ _ _ _ _ _ _
   | exact ih3 _ _ _ _ _
   | exact ih4 _ _ _ _ _
   | exact ih5 _ _ _ _ _ _ _
   | exact ih6 _ _ _ _ _ _ _
   | exact impl_Fair.mono _ _ _
   | exact laws_sameInts.mono _ _ _
   | exact spec_DrawFair.mono _ _
   | exact spec_Fair.mono _ _ _
   | exact LeO.none _
   | refine LeO.ite ?_ ?_
   | refine LeO.bind ?_ (fun _ => ?_)
def laws_FnFairTurns.T25 : Bool × List (List Nat × List Nat) := (true, [([], []), ([0], [0]), ([1], [1]), ([2], [2]), ([2], [2]), ([4, 2], [2, 4]), ([3, 5, 2], [2, 3, 5]), ([2, 6], [2, 6]), ([7, 2], [7]), ([8], [8]), ([8], [8]), ([9, 10, 8], [8, 9, 10]), ([11, 8], [8, 11]), ([8], [8]), ([8], [8]), ([13, 14, 8], [8, 13, 14]), ([15, 8], [8, 15]), ([16, 8], [8, 16]), ([12, 17, 8], [8, 12, 17]), ([8, 18], [8, 18]), ([19, 8], [19]), ([20], [20]), ([20], [20]), ([21, 22, 20], [20, 21, 22]), ([23, 20], [20, 23]), ([20], [20]), ([20], [20]), ([25, 26, 20], [20, 25, 26]), ([27, 20], [20, 27]), ([24, 28, 20], [20, 24, 28]), ([29, 20], [20, 29]), ([20], [20]), ([20], [20]), ([31, 32, 20], [20, 31, 32]), ([33, 20], [20, 33]), ([30, 34, 20], [20, 30, 34]), ([20, 35], [20, 35])])
def laws_FnFairTurns.B25 : List Nat := [0, 1, 3, 7, 7, 23, 63, 127, 255, 511, 511, 2047, 4095, 511, 511, 25087, 57855, 123391, 262143, 524287, 1048575, 2097151, 2097151, 8388607, 16777215, 2097151, 2097151, 102760447, 236978175, 536870911, 1073741823, 2097151, 2097151, 6444548095, 15034482687, 34359738367, 68719476735]
theorem laws_FnFairTurns.tab25 : rtab .any (opsOf Try.f3 25) = laws_FnFairTurns.T25 := by kernel_rfl
theorem laws_FnFairTurns.bits25 : waitsOk laws_FnFairTurns.T25.2 laws_FnFairTurns.B25 = true := by kernel_rfl
def laws_FnFairTurns.T31 : Bool × List (List Nat × List Nat) := (true, [([], []), ([], []), ([0, 1], [0, 1]), ([2], [2]), ([], []), ([], []), ([4, 5], [4, 5]), ([6], [6]), ([7], [7]), ([3, 8], [3, 8]), ([9], [9]), ([10], [10]), ([10], [10]), ([11, 12, 10], [10, 11, 12]), ([13, 10], [10, 13]), ([10], [10]), ([10], [10]), ([15, 16, 10], [10, 15, 16]), ([17, 10], [10, 17]), ([18, 10], [10, 18]), ([14, 19, 10], [10, 14, 19]), ([10, 20], [10, 20])])
def laws_FnFairTurns.B31 : List Nat := [0, 0, 3, 7, 0, 0, 48, 112, 240, 511, 1023, 2047, 2047, 8191, 16383, 2047, 2047, 100351, 231423, 493567, 1048575, 2097151]
theorem laws_FnFairTurns.tab31 : rtab .any (opsOf Try.f3 31) = laws_FnFairTurns.T31 := by kernel_rfl
theorem laws_FnFairTurns.bits31 : waitsOk laws_FnFairTurns.T31.2 laws_FnFairTurns.B31 = true := by kernel_rfl
def codeL : Go.Code → Go.Code
  | .seq a _ => a
  | .cond _ a _ => a
  | .block _ a => a
  | .loop a => a
  | .scope a => a
  | c => c
def codeR : Go.Code → Go.Code
  | .seq _ b => b
  | .cond _ _ b => b
  | c => c
end Go.Proofs.Ytheinelpeapleaa.MFnFairTurns
