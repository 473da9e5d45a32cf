/- The functions that the law FnExactRestart reaches, as plain functions, and that the code comes to them. Begun as a text of the print over stubs; turned by wip/handstub.py and wip/mend.py. -/
import Derived.Test.YtngnkfpciloamaaShortFnExactRestart
import Derived.Test.YtngnkfpciloamaaMFnExactRestartx0
import Derived.Test.YtngnkfpciloamaaMFnExactRestartx4
import Derived.Test.YtngnkfpciloamaaMFnExactRestartx5
import Derived.Test.YtngnkfpciloamaaMFnExactRestartx6
import Derived.Test.YtngnkfpciloamaaMFnExactRestartx10
import Derived.Test.YtngnkfpciloamaaMFnExactRestartx12
namespace Go.Proofs.Ytngnkfpciloamaa.MFnExactRestart
open Go.RowKit Go.Proofs.YtngnkfpciloamaaW.PrintWords Go.Proofs.YtngnkfpciloamaaW.PrintLast Go.Proofs.YtngnkfpciloamaaW.PrintMore
attribute [local go_sem] max2_int min2_int max_two min_two max_three min_three max_four min_four   -- for this text's walks alone
set_option linter.unusedVariables false
set_option linter.unusedSimpArgs false

/-! ### laws_FnExactRestart: function 6 -/
mutual
def laws_FnExactRestart.j0 : Nat → Int → Bool → Bool → Bool → List (S54) → List Int → List Int → List (S50) → List Int → List Int → List (S50) → List Int → List Int → List (S50) → List Int → List Int → Option (Bool)
 | 0, _, _, _, _, _, _, _, _, _, _, _, _, _, _, _, _ => none
 | k + 1, x1, x7, x10, x44, x403000, x403001, x403002, x424000, x424001, x424002, x434000, x434001, x434002, x445000, x445001, x445002 => if x44 = true then (some false) else ((laws_toBook.f k x403000 x403001 x403002).bind fun bt446 => ((laws_eqBook.f k x434000 x434001 x434002 bt446.1 bt446.2.1 bt446.2.2).bind fun t455 => (if t455 = true then ((laws_markBook.f k x434000 x434001 x434002 1).bind fun bt456 => (if bt456.1 < 0 then (laws_FnExactRestart.j1 k x1 x7 true x403000 x403001 x403002 x424000 x424001 x424002 x445000 x445001 x445002) else ((laws_eqBook.f k x445000 x445001 x445002 x424000 x424001 x424002).bind fun t460 => (if t460 = true then (laws_FnExactRestart.j1 k x1 x7 (x10 != x7) x403000 x403001 x403002 x424000 x424001 x424002 x445000 x445001 x445002) else (laws_FnExactRestart.j1 k x1 x7 true x403000 x403001 x403002 x424000 x424001 x424002 x445000 x445001 x445002))))) else (some false))))
def laws_FnExactRestart.j1 : Nat → Int → Bool → Bool → List (S54) → List Int → List Int → List (S50) → List Int → List Int → List (S50) → List Int → List Int → Option (Bool)
 | 0, _, _, _, _, _, _, _, _, _, _, _, _ => none
 | k + 1, x1, x7, x65, x403000, x403001, x403002, x424000, x424001, x424002, x445000, x445001, x445002 => if x65 = true then (some false) else ((laws_markBook.f k x445000 x445001 x445002 1).bind fun bt461 => ((laws_heldBook.f k bt461.2.1 bt461.2.2.1 bt461.2.2.2 1).bind fun t465 => (if t465 < 0 then (some false) else (if t465 = bt461.1 then ((laws_toBook.f k x403000 x403001 x403002).bind fun bt466 => ((impl_Restart.f k bt466.1 bt466.2.1 bt466.2.2 x1).bind fun bt475 => ((laws_eqBook.f k bt475.1 bt475.2.1 bt475.2.2.1 x424000 x424001 x424002).bind fun t486 => (if t486 = true then (laws_FnExactRestart.j2 k bt461.1 (bt475.2.2.2 != x7) bt461.2.1 bt461.2.2.1 bt461.2.2.2) else (laws_FnExactRestart.j2 k bt461.1 true bt461.2.1 bt461.2.2.1 bt461.2.2.2))))) else (some false)))))
def laws_FnExactRestart.j2 : Nat → Int → Bool → List (S50) → List Int → List Int → Option (Bool)
 | 0, _, _, _, _, _ => none
 | k + 1, x12, x92, x445000, x445001, x445002 => if x92 = true then (some false) else ((laws_heldBook.f k x445000 x445001 x445002 1).bind fun t487 => (if t487 < 0 then (some false) else (if t487 = x12 then (some true) else (some false))))
end
def laws_FnExactRestart.f (k : Nat) (l0_0 : List (S54)) (l0_1 : List Int) (l0_2 : List Int) (a1 : Int) : Option (Bool) := (laws_szBook.f l0_0 l0_1 l0_2 1048576).bind fun t403 => (if t403 < 0 then (some true) else ((laws_toBook.f k l0_0 l0_1 l0_2).bind fun bt404 => ((spec_Restart.f k bt404.1 bt404.2.1 bt404.2.2 a1).bind fun bt413 => ((laws_toBook.f k l0_0 l0_1 l0_2).bind fun bt424 => ((impl_Restart.f k bt424.1 bt424.2.1 bt424.2.2 a1).bind fun bt434 => ((laws_eqBook.f k bt434.1 bt434.2.1 bt434.2.2.1 bt413.1 bt413.2.1 bt413.2.2.1).bind fun t445 => (if t445 = true then (laws_FnExactRestart.j0 k a1 bt413.2.2.2 bt434.2.2.2 (bt434.2.2.2 != bt413.2.2.2) l0_0 l0_1 l0_2 bt413.1 bt413.2.1 bt413.2.2.1 bt424.1 bt424.2.1 bt424.2.2 bt434.1 bt434.2.1 bt434.2.2.1) else (laws_FnExactRestart.j0 k a1 bt413.2.2.2 bt434.2.2.2 true l0_0 l0_1 l0_2 bt413.1 bt413.2.1 bt413.2.2.1 bt424.1 bt424.2.1 bt424.2.2 bt434.1 bt434.2.1 bt434.2.2.1))))))))
theorem laws_FnExactRestart.mono_l : ∀ k, (∀ y0 y1 y2 y3 y4 y5 y6 y7 y8 y9 y10 y11 y12 y13 y14 y15, LeO (laws_FnExactRestart.j0 k y0 y1 y2 y3 y4 y5 y6 y7 y8 y9 y10 y11 y12 y13 y14 y15) (laws_FnExactRestart.j0 (k + 1) y0 y1 y2 y3 y4 y5 y6 y7 y8 y9 y10 y11 y12 y13 y14 y15)) ∧ (∀ y0 y1 y2 y3 y4 y5 y6 y7 y8 y9 y10 y11, LeO (laws_FnExactRestart.j1 k y0 y1 y2 y3 y4 y5 y6 y7 y8 y9 y10 y11) (laws_FnExactRestart.j1 (k + 1) y0 y1 y2 y3 y4 y5 y6 y7 y8 y9 y10 y11)) ∧ (∀ y0 y1 y2 y3 y4, LeO (laws_FnExactRestart.j2 k y0 y1 y2 y3 y4) (laws_FnExactRestart.j2 (k + 1) y0 y1 y2 y3 y4))
 | 0 => ⟨fun _ _ _ _ _ _ _ _ _ _ _ _ _ _ _ _ r h => by simp [laws_FnExactRestart.j0] at h, fun _ _ _ _ _ _ _ _ _ _ _ _ r h => by simp [laws_FnExactRestart.j1] at h, fun _ _ _ _ _ r h => by simp [laws_FnExactRestart.j2] at h⟩
 | k + 1 => by
  obtain ⟨ih0, ih1, ih2⟩ := laws_FnExactRestart.mono_l k
  refine ⟨?_, ?_, ?_⟩
  ·intro y0 y1 y2 y3 y4 y5 y6 y7 y8 y9 y10 y11 y12 y13 y14 y15
   unfold laws_FnExactRestart.j0
   repeat' first
   | (with_reducible exact ih0 _ _ _ _ _ _ _ _ _ _ _ _ _ _ _ _)
   | (with_reducible exact ih1 _ _ _ _ _ _ _ _ _ _ _ _)
   | (with_reducible exact ih2 _ _ _ _ _)
   | (with_reducible exact impl_Restart.mono _ _ _ _ _)
   | (with_reducible exact laws_eqBook.mono _ _ _ _ _ _ _)
   | (with_reducible exact laws_heldBook.mono _ _ _ _ _)
   | (with_reducible exact laws_markBook.mono _ _ _ _ _)
   | (with_reducible exact laws_toBook.mono _ _ _ _)
   | (with_reducible exact spec_Restart.mono _ _ _ _ _)
   | (with_reducible exact LeO.refl _)
   | (with_reducible exact LeO.none _)
   | (with_reducible refine LeO.ite ?_ ?_)
   | (with_reducible refine LeO.bind ?_ (fun _ => ?_))
   | exact ih0 _ _ _ _ _ _ _ _ _ _ _ _ _ _ _ _
   | exact ih1 _ _ _ _ _ _ _ _ _ _ _ _
   | exact ih2 _ _ _ _ _
   | exact impl_Restart.mono _ _ _ _ _
   | exact laws_eqBook.mono _ _ _ _ _ _ _
   | exact laws_heldBook.mono _ _ _ _ _
   | exact laws_markBook.mono _ _ _ _ _
   | exact laws_toBook.mono _ _ _ _
   | exact spec_Restart.mono _ _ _ _ _
   | exact LeO.none _
   | refine LeO.ite ?_ ?_
   | refine LeO.bind ?_ (fun _ => ?_)
  ·intro y0 y1 y2 y3 y4 y5 y6 y7 y8 y9 y10 y11
   unfold laws_FnExactRestart.j1
   repeat' first
   | (with_reducible exact ih0 _ _ _ _ _ _ _ _ _ _ _ _ _ _ _ _)
   | (with_reducible exact ih1 _ _ _ _ _ _ _ _ _ _ _ _)
   | (with_reducible exact ih2 _ _ _ _ _)
   | (with_reducible exact impl_Restart.mono _ _ _ _ _)
   | (with_reducible exact laws_eqBook.mono _ _ _ _ _ _ _)
   | (with_reducible exact laws_heldBook.mono _ _ _ _ _)
   | (with_reducible exact laws_markBook.mono _ _ _ _ _)
   | (with_reducible exact laws_toBook.mono _ _ _ _)
   | (with_reducible exact spec_Restart.mono _ _ _ _ _)
   | (with_reducible exact LeO.refl _)
   | (with_reducible exact LeO.none _)
   | (with_reducible refine LeO.ite ?_ ?_)
   | (with_reducible refine LeO.bind ?_ (fun _ => ?_))
   | exact ih0 _ _ _ _ _ _ _ _ _ _ _ _ _ _ _ _
   | exact ih1 _ _ _ _ _ _ _ _ _ _ _ _
   | exact ih2 _ _ _ _ _
   | exact impl_Restart.mono _ _ _ _ _
   | exact laws_eqBook.mono _ _ _ _ _ _ _
   | exact laws_heldBook.mono _ _ _ _ _
   | exact laws_markBook.mono _ _ _ _ _
   | exact laws_toBook.mono _ _ _ _
   | exact spec_Restart.mono _ _ _ _ _
   | exact LeO.none _
   | refine LeO.ite ?_ ?_
   | refine LeO.bind ?_ (fun _ => ?_)
  ·intro y0 y1 y2 y3 y4
   unfold laws_FnExactRestart.j2
   repeat' first
   | (with_reducible exact ih0 _ _ _ _ _ _ _ _ _ _ _ _ _ _ _ _)
   | (with_reducible exact ih1 _ _ _ _ _ _ _ _ _ _ _ _)
   | (with_reducible exact ih2 _ _ _ _ _)
   | (with_reducible exact impl_Restart.mono _ _ _ _ _)
   | (with_reducible exact laws_eqBook.mono _ _ _ _ _ _ _)
   | (with_reducible exact laws_heldBook.mono _ _ _ _ _)
   | (with_reducible exact laws_markBook.mono _ _ _ _ _)
   | (with_reducible exact laws_toBook.mono _ _ _ _)
   | (with_reducible exact spec_Restart.mono _ _ _ _ _)
   | (with_reducible exact LeO.refl _)
   | (with_reducible exact LeO.none _)
   | (with_reducible refine LeO.ite ?_ ?_)
   | (with_reducible refine LeO.bind ?_ (fun _ => ?_))
   | exact ih0 _ _ _ _ _ _ _ _ _ _ _ _ _ _ _ _
   | exact ih1 _ _ _ _ _ _ _ _ _ _ _ _
   | exact ih2 _ _ _ _ _
   | exact impl_Restart.mono _ _ _ _ _
   | exact laws_eqBook.mono _ _ _ _ _ _ _
   | exact laws_heldBook.mono _ _ _ _ _
   | exact laws_markBook.mono _ _ _ _ _
   | exact laws_toBook.mono _ _ _ _
   | exact spec_Restart.mono _ _ _ _ _
   | exact LeO.none _
   | refine LeO.ite ?_ ?_
   | refine LeO.bind ?_ (fun _ => ?_)
theorem laws_FnExactRestart.mono : ∀ a0 a1 a2 a3 k, LeO (laws_FnExactRestart.f k a0 a1 a2 a3) (laws_FnExactRestart.f (k + 1) a0 a1 a2 a3) := by
 intro a0 a1 a2 a3 k
 obtain ⟨ih0, ih1, ih2⟩ := laws_FnExactRestart.mono_l k
 unfold laws_FnExactRestart.f
 repeat' first
   | (with_reducible exact ih0 _ _ _ _ _ _ _ _ _ _ _ _ _ _ _ _)
   | (with_reducible exact ih1 _ _ _ _ _ _ _ _ _ _ _ _)
   | (with_reducible exact ih2 _ _ _ _ _)
   | (with_reducible exact impl_Restart.mono _ _ _ _ _)
   | (with_reducible exact laws_eqBook.mono _ _ _ _ _ _ _)
   | (with_reducible exact laws_heldBook.mono _ _ _ _ _)
   | (with_reducible exact laws_markBook.mono _ _ _ _ _)
   | (with_reducible exact laws_toBook.mono _ _ _ _)
   | (with_reducible exact spec_Restart.mono _ _ _ _ _)
   | (with_reducible exact LeO.refl _)
   | (with_reducible exact LeO.none _)
   | (with_reducible refine LeO.ite ?_ ?_)
   | (with_reducible refine LeO.bind ?_ (fun _ => ?_))
   | exact ih0 _ _ _ _ _ _ _ _ _ _ _ _ _ _ _ _
   | exact ih1 _ _ _ _ _ _ _ _ _ _ _ _
   | exact ih2 _ _ _ _ _
   | exact impl_Restart.mono _ _ _ _ _
   | exact laws_eqBook.mono _ _ _ _ _ _ _
   | exact laws_heldBook.mono _ _ _ _ _
   | exact laws_markBook.mono _ _ _ _ _
   | exact laws_toBook.mono _ _ _ _
   | exact spec_Restart.mono _ _ _ _ _
   | exact LeO.none _
   | refine LeO.ite ?_ ?_
   | refine LeO.bind ?_ (fun _ => ?_)
def codeL : Go.Code → Go.Code
 | .seq a _ => a
 | .cond _ a _ => a
 | .block _ a => a
 | .loop a => a
 | .scope a => a
 | c => c
def codeR : Go.Code → Go.Code
 | .seq _ b => b
 | .cond _ _ b => b
 | c => c
end Go.Proofs.Ytngnkfpciloamaa.MFnExactRestart
