/- The functions that the law FnExactMendBook reaches, as plain functions, and that the code comes to them. Begun as a text of the print over stubs; turned by wip/handstub.py and wip/mend.py. -/
import Derived.Test.YtngnkfpciloamaaMFnExactMendBookx0
import Derived.Test.YtngnkfpciloamaaMFnExactMendBookx1
import Derived.Test.YtngnkfpciloamaaMFnExactMendBookx4
import Derived.Test.YtngnkfpciloamaaMFnExactMendBookx5
import Derived.Test.YtngnkfpciloamaaMFnExactMendBookx7
import Derived.Test.YtngnkfpciloamaaMFnExactMendBookx8
import Derived.Test.YtngnkfpciloamaaMFnExactMendBookx9
namespace Go.Proofs.Ytngnkfpciloamaa.MFnExactMendBook
open Go.RowKit Go.Proofs.YtngnkfpciloamaaW.PrintWords Go.Proofs.YtngnkfpciloamaaW.PrintLast Go.Proofs.YtngnkfpciloamaaW.PrintMore
attribute [local go_sem] max2_int min2_int max_two min_two max_three min_three max_four min_four   -- for this text's walks alone
set_option linter.unusedVariables false
set_option linter.unusedSimpArgs false

/-! ### laws_FnExactMendBook: function 3 -/
mutual
def laws_FnExactMendBook.j0 : Nat → List Int → List Int → Bool → List (S54) → List Int → List Int → List (S50) → List Int → List Int → List (S50) → List Int → List Int → List (S50) → List Int → List Int → Option (Bool)
 | 0, _, _, _, _, _, _, _, _, _, _, _, _, _, _, _ => none
 | k + 1, x5, x8, x41, x297000, x297001, x297002, x320000, x320001, x320002, x330000, x330001, x330002, x343000, x343001, x343002 => if x41 = true then (some false) else ((laws_toBook.f k x297000 x297001 x297002).bind fun bt345 => ((laws_eqBook.f k x330000 x330001 x330002 bt345.1 bt345.2.1 bt345.2.2).bind fun t354 => (if t354 = true then ((laws_markBook.f k x330000 x330001 x330002 1).bind fun bt355 => (if bt355.1 < 0 then (laws_FnExactMendBook.j1 k x5 x8 true x297000 x297001 x297002 x320000 x320001 x320002 x343000 x343001 x343002) else ((laws_eqBook.f k x343000 x343001 x343002 x320000 x320001 x320002).bind fun t359 => (if t359 = true then ((laws_eqIntS.f k x8 x5).bind fun t360 => (laws_FnExactMendBook.j1 k x5 x8 (!t360) x297000 x297001 x297002 x320000 x320001 x320002 x343000 x343001 x343002)) else (laws_FnExactMendBook.j1 k x5 x8 true x297000 x297001 x297002 x320000 x320001 x320002 x343000 x343001 x343002))))) else (some false))))
def laws_FnExactMendBook.j1 : Nat → List Int → List Int → Bool → List (S54) → List Int → List Int → List (S50) → List Int → List Int → List (S50) → List Int → List Int → Option (Bool)
 | 0, _, _, _, _, _, _, _, _, _, _, _, _ => none
 | k + 1, x5, x8, x63, x297000, x297001, x297002, x320000, x320001, x320002, x343000, x343001, x343002 => if x63 = true then (some false) else ((laws_markBook.f k x343000 x343001 x343002 1).bind fun bt361 => ((laws_markIntS.f k x8 bt361.1).bind fun bt365 => ((laws_heldBook.f k bt361.2.1 bt361.2.2.1 bt361.2.2.2 1).bind fun t367 => (if t367 < 0 then (some false) else ((laws_heldIntS.f k bt365.2 t367).bind fun t368 => (if t368 < 0 then (some false) else (if t368 = bt365.1 then ((laws_toBook.f k x297000 x297001 x297002).bind fun bt369 => ((impl_MendBook.f k bt369.1 bt369.2.1 bt369.2.2).bind fun bt378 => ((laws_eqBook.f k bt378.1 bt378.2.1 bt378.2.2.1 x320000 x320001 x320002).bind fun t391 => (if t391 = true then ((laws_eqIntS.f k bt378.2.2.2 x5).bind fun t392 => (laws_FnExactMendBook.j2 k bt365.2 bt365.1 (!t392) bt361.2.1 bt361.2.2.1 bt361.2.2.2)) else (laws_FnExactMendBook.j2 k bt365.2 bt365.1 true bt361.2.1 bt361.2.2.1 bt361.2.2.2))))) else (some false))))))))
def laws_FnExactMendBook.j2 : Nat → List Int → Int → Bool → List (S50) → List Int → List Int → Option (Bool)
 | 0, _, _, _, _, _, _ => none
 | k + 1, x8, x10, x98, x343000, x343001, x343002 => if x98 = true then (some false) else ((laws_heldBook.f k x343000 x343001 x343002 1).bind fun t393 => (if t393 < 0 then (some false) else ((laws_heldIntS.f k x8 t393).bind fun t394 => (if t394 < 0 then (some false) else (if t394 = x10 then (some true) else (some false))))))
end
def laws_FnExactMendBook.f (k : Nat) (l0_0 : List (S54)) (l0_1 : List Int) (l0_2 : List Int) : Option (Bool) := (laws_szBook.f l0_0 l0_1 l0_2 1048576).bind fun t297 => (if t297 < 0 then (some true) else ((laws_toBook.f k l0_0 l0_1 l0_2).bind fun bt298 => ((spec_MendBook.f k bt298.1 bt298.2.1 bt298.2.2).bind fun bt307 => ((laws_toBook.f k l0_0 l0_1 l0_2).bind fun bt320 => ((impl_MendBook.f k bt320.1 bt320.2.1 bt320.2.2).bind fun bt330 => ((laws_eqBook.f k bt330.1 bt330.2.1 bt330.2.2.1 bt307.1 bt307.2.1 bt307.2.2.1).bind fun t343 => (if t343 = true then ((laws_eqIntS.f k bt330.2.2.2 bt307.2.2.2).bind fun t344 => (laws_FnExactMendBook.j0 k bt307.2.2.2 bt330.2.2.2 (!t344) l0_0 l0_1 l0_2 bt307.1 bt307.2.1 bt307.2.2.1 bt320.1 bt320.2.1 bt320.2.2 bt330.1 bt330.2.1 bt330.2.2.1)) else (laws_FnExactMendBook.j0 k bt307.2.2.2 bt330.2.2.2 true l0_0 l0_1 l0_2 bt307.1 bt307.2.1 bt307.2.2.1 bt320.1 bt320.2.1 bt320.2.2 bt330.1 bt330.2.1 bt330.2.2.1))))))))
theorem laws_FnExactMendBook.mono_l : ∀ k, (∀ y0 y1 y2 y3 y4 y5 y6 y7 y8 y9 y10 y11 y12 y13 y14, LeO (laws_FnExactMendBook.j0 k y0 y1 y2 y3 y4 y5 y6 y7 y8 y9 y10 y11 y12 y13 y14) (laws_FnExactMendBook.j0 (k + 1) y0 y1 y2 y3 y4 y5 y6 y7 y8 y9 y10 y11 y12 y13 y14)) ∧ (∀ y0 y1 y2 y3 y4 y5 y6 y7 y8 y9 y10 y11, LeO (laws_FnExactMendBook.j1 k y0 y1 y2 y3 y4 y5 y6 y7 y8 y9 y10 y11) (laws_FnExactMendBook.j1 (k + 1) y0 y1 y2 y3 y4 y5 y6 y7 y8 y9 y10 y11)) ∧ (∀ y0 y1 y2 y3 y4 y5, LeO (laws_FnExactMendBook.j2 k y0 y1 y2 y3 y4 y5) (laws_FnExactMendBook.j2 (k + 1) y0 y1 y2 y3 y4 y5))
 | 0 => ⟨fun _ _ _ _ _ _ _ _ _ _ _ _ _ _ _ r h => by simp [laws_FnExactMendBook.j0] at h, fun _ _ _ _ _ _ _ _ _ _ _ _ r h => by simp [laws_FnExactMendBook.j1] at h, fun _ _ _ _ _ _ r h => by simp [laws_FnExactMendBook.j2] at h⟩
 | k + 1 => by
  obtain ⟨ih0, ih1, ih2⟩ := laws_FnExactMendBook.mono_l k
  refine ⟨?_, ?_, ?_⟩
  ·intro y0 y1 y2 y3 y4 y5 y6 y7 y8 y9 y10 y11 y12 y13 y14
   unfold laws_FnExactMendBook.j0
   repeat' first
   | (with_reducible exact ih0 _ _ _ _ _ _ _ _ _ _ _ _ _ _ _)
   | (with_reducible exact ih1 _ _ _ _ _ _ _ _ _ _ _ _)
   | (with_reducible exact ih2 _ _ _ _ _ _)
   | (with_reducible exact impl_MendBook.mono _ _ _ _)
   | (with_reducible exact laws_eqBook.mono _ _ _ _ _ _ _)
   | (with_reducible exact laws_eqIntS.mono _ _ _)
   | (with_reducible exact laws_heldBook.mono _ _ _ _ _)
   | (with_reducible exact laws_heldIntS.mono _ _ _)
   | (with_reducible exact laws_markBook.mono _ _ _ _ _)
   | (with_reducible exact laws_markIntS.mono _ _ _)
   | (with_reducible exact laws_toBook.mono _ _ _ _)
   | (with_reducible exact spec_MendBook.mono _ _ _ _)
   | (with_reducible exact LeO.refl _)
   | (with_reducible exact LeO.none _)
   | (with_reducible refine LeO.ite ?_ ?_)
   | (with_reducible refine LeO.bind ?_ (fun _ => ?_))
   | exact ih0 _ _ _ _ _ _ _ _ _ _ _ _ _ _ _
   | exact ih1 _ _ _ _ _ _ _ _ _ _ _ _
   | exact ih2 _ _ _ _ _ _
   | exact impl_MendBook.mono _ _ _ _
   | exact laws_eqBook.mono _ _ _ _ _ _ _
   | exact laws_eqIntS.mono _ _ _
   | exact laws_heldBook.mono _ _ _ _ _
   | exact laws_heldIntS.mono _ _ _
   | exact laws_markBook.mono _ _ _ _ _
   | exact laws_markIntS.mono _ _ _
   | exact laws_toBook.mono _ _ _ _
   | exact spec_MendBook.mono _ _ _ _
   | exact LeO.none _
   | refine LeO.ite ?_ ?_
   | refine LeO.bind ?_ (fun _ => ?_)
  ·intro y0 y1 y2 y3 y4 y5 y6 y7 y8 y9 y10 y11
   unfold laws_FnExactMendBook.j1
   repeat' first
   | (with_reducible exact ih0 _ _ _ _ _ _ _ _ _ _ _ _ _ _ _)
   | (with_reducible exact ih1 _ _ _ _ _ _ _ _ _ _ _ _)
   | (with_reducible exact ih2 _ _ _ _ _ _)
   | (with_reducible exact impl_MendBook.mono _ _ _ _)
   | (with_reducible exact laws_eqBook.mono _ _ _ _ _ _ _)
   | (with_reducible exact laws_eqIntS.mono _ _ _)
   | (with_reducible exact laws_heldBook.mono _ _ _ _ _)
   | (with_reducible exact laws_heldIntS.mono _ _ _)
   | (with_reducible exact laws_markBook.mono _ _ _ _ _)
   | (with_reducible exact laws_markIntS.mono _ _ _)
   | (with_reducible exact laws_toBook.mono _ _ _ _)
   | (with_reducible exact spec_MendBook.mono _ _ _ _)
   | (with_reducible exact LeO.refl _)
   | (with_reducible exact LeO.none _)
   | (with_reducible refine LeO.ite ?_ ?_)
   | (with_reducible refine LeO.bind ?_ (fun _ => ?_))
   | exact ih0 _ _ _ _ _ _ _ _ _ _ _ _ _ _ _
   | exact ih1 _ _ _ _ _ _ _ _ _ _ _ _
   | exact ih2 _ _ _ _ _ _
   | exact impl_MendBook.mono _ _ _ _
   | exact laws_eqBook.mono _ _ _ _ _ _ _
   | exact laws_eqIntS.mono _ _ _
   | exact laws_heldBook.mono _ _ _ _ _
   | exact laws_heldIntS.mono _ _ _
   | exact laws_markBook.mono _ _ _ _ _
   | exact laws_markIntS.mono _ _ _
   | exact laws_toBook.mono _ _ _ _
   | exact spec_MendBook.mono _ _ _ _
   | exact LeO.none _
   | refine LeO.ite ?_ ?_
   | refine LeO.bind ?_ (fun _ => ?_)
  ·intro y0 y1 y2 y3 y4 y5
   unfold laws_FnExactMendBook.j2
   repeat' first
   | (with_reducible exact ih0 _ _ _ _ _ _ _ _ _ _ _ _ _ _ _)
   | (with_reducible exact ih1 _ _ _ _ _ _ _ _ _ _ _ _)
   | (with_reducible exact ih2 _ _ _ _ _ _)
   | (with_reducible exact impl_MendBook.mono _ _ _ _)
   | (with_reducible exact laws_eqBook.mono _ _ _ _ _ _ _)
   | (with_reducible exact laws_eqIntS.mono _ _ _)
   | (with_reducible exact laws_heldBook.mono _ _ _ _ _)
   | (with_reducible exact laws_heldIntS.mono _ _ _)
   | (with_reducible exact laws_markBook.mono _ _ _ _ _)
   | (with_reducible exact laws_markIntS.mono _ _ _)
   | (with_reducible exact laws_toBook.mono _ _ _ _)
   | (with_reducible exact spec_MendBook.mono _ _ _ _)
   | (with_reducible exact LeO.refl _)
   | (with_reducible exact LeO.none _)
   | (with_reducible refine LeO.ite ?_ ?_)
   | (with_reducible refine LeO.bind ?_ (fun _ => ?_))
   | exact ih0 _ _ _ _ _ _ _ _ _ _ _ _ _ _ _
   | exact ih1 _ _ _ _ _ _ _ _ _ _ _ _
   | exact ih2 _ _ _ _ _ _
   | exact impl_MendBook.mono _ _ _ _
   | exact laws_eqBook.mono _ _ _ _ _ _ _
   | exact laws_eqIntS.mono _ _ _
   | exact laws_heldBook.mono _ _ _ _ _
   | exact laws_heldIntS.mono _ _ _
   | exact laws_markBook.mono _ _ _ _ _
   | exact laws_markIntS.mono _ _ _
   | exact laws_toBook.mono _ _ _ _
   | exact spec_MendBook.mono _ _ _ _
   | exact LeO.none _
   | refine LeO.ite ?_ ?_
   | refine LeO.bind ?_ (fun _ => ?_)
theorem laws_FnExactMendBook.mono : ∀ a0 a1 a2 k, LeO (laws_FnExactMendBook.f k a0 a1 a2) (laws_FnExactMendBook.f (k + 1) a0 a1 a2) := by
 intro a0 a1 a2 k
 obtain ⟨ih0, ih1, ih2⟩ := laws_FnExactMendBook.mono_l k
 unfold laws_FnExactMendBook.f
 repeat' first
   | (with_reducible exact ih0 _ _ _ _ _ _ _ _ _ _ _ _ _ _ _)
   | (with_reducible exact ih1 _ _ _ _ _ _ _ _ _ _ _ _)
   | (with_reducible exact ih2 _ _ _ _ _ _)
   | (with_reducible exact impl_MendBook.mono _ _ _ _)
   | (with_reducible exact laws_eqBook.mono _ _ _ _ _ _ _)
   | (with_reducible exact laws_eqIntS.mono _ _ _)
   | (with_reducible exact laws_heldBook.mono _ _ _ _ _)
   | (with_reducible exact laws_heldIntS.mono _ _ _)
   | (with_reducible exact laws_markBook.mono _ _ _ _ _)
   | (with_reducible exact laws_markIntS.mono _ _ _)
   | (with_reducible exact laws_toBook.mono _ _ _ _)
   | (with_reducible exact spec_MendBook.mono _ _ _ _)
   | (with_reducible exact LeO.refl _)
   | (with_reducible exact LeO.none _)
   | (with_reducible refine LeO.ite ?_ ?_)
   | (with_reducible refine LeO.bind ?_ (fun _ => ?_))
   | exact ih0 _ _ _ _ _ _ _ _ _ _ _ _ _ _ _
   | exact ih1 _ _ _ _ _ _ _ _ _ _ _ _
   | exact ih2 _ _ _ _ _ _
   | exact impl_MendBook.mono _ _ _ _
   | exact laws_eqBook.mono _ _ _ _ _ _ _
   | exact laws_eqIntS.mono _ _ _
   | exact laws_heldBook.mono _ _ _ _ _
   | exact laws_heldIntS.mono _ _ _
   | exact laws_markBook.mono _ _ _ _ _
   | exact laws_markIntS.mono _ _ _
   | exact laws_toBook.mono _ _ _ _
   | exact spec_MendBook.mono _ _ _ _
   | exact LeO.none _
   | refine LeO.ite ?_ ?_
   | refine LeO.bind ?_ (fun _ => ?_)
set_option maxHeartbeats 8000000 in
set_option maxRecDepth 100000 in
def codeL : Go.Code → Go.Code
 | .seq a _ => a
 | .cond _ a _ => a
 | .block _ a => a
 | .loop a => a
 | .scope a => a
 | c => c
def codeR : Go.Code → Go.Code
 | .seq _ b => b
 | .cond _ _ b => b
 | c => c
end Go.Proofs.Ytngnkfpciloamaa.MFnExactMendBook
