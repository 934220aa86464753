-- Written by this session's own program (xprint.py) over the kit's print.
import Derived.Test.YtigoajblljolcaaXFnExactHelpersx0
import Derived.Test.YtigoajblljolcaaXFnExactHelpersx1
import Derived.Test.YtigoajblljolcaaXFnExactHelpersx2
import Derived.Test.YtigoajblljolcaaXFnExactHelpersx6
import Derived.Test.YtigoajblljolcaaXFnExactHelpersx10
import Derived.Test.YtigoajblljolcaaXFnExactHelpersx11
namespace Go.Proofs.Ytigoajblljolcaa.XFnExactHelpers
open Go.RowKit Go.Proofs.YtigoajblljolcaaW.PrintWords Go.Proofs.YtigoajblljolcaaW.PrintLast Go.Proofs.YtigoajblljolcaaW.PrintMore
attribute [local go_sem] max2_int min2_int max_two min_two max_three min_three max_four min_four   -- for this text's walks alone
set_option linter.unusedVariables false
set_option linter.unusedSimpArgs false


/-! ### laws_FnExactHelpers: function 12 -/
mutual
def laws_FnExactHelpers.j0 : Nat → Int → List Int → List Int → Bool → List Int → Int → Int → Int → Int → Int → Int → List (S80) → List Int → Int → Int → Int → Int → Int → List Int → Int → Int → Int → Int → Int → Int → List (S82) → List Int → Int → Int → Int → Int → Int → Option (Bool)
  | 0, _, _, _, _, _, _, _, _, _, _, _, _, _, _, _, _, _, _, _, _, _, _, _, _, _, _, _, _, _, _, _, _ => none
  | k + 1, x2, x9, x13, x58, x347000, x347001, x347002, x347003, x347004, x347005, x348000, x348001, x374000, x374001, x374002, x374003, x374004, x374005, x383000, x383001, x383002, x383003, x383004, x383005, x388000, x388001, x400000, x400001, x400002, x400003, x400004, x400005 => if x58 = true then (some false) else ((laws_toProber.f k x347000 x347001 x347002 x347003 x347004 x347005).bind fun bt402 => ((laws_eqProber.f k x383000 x383001 x383002 x383003 x383004 x383005 bt402.1 bt402.2.1 bt402.2.2.1 bt402.2.2.2.1 bt402.2.2.2.2.1 bt402.2.2.2.2.2).bind fun t410 => (if t410 = true then ((laws_toTable.f k x348000 x348001).bind fun bt411 => ((laws_eqTable.f k x388000 x388001 bt411.1 bt411.2).bind fun t415 => (if t415 = true then ((laws_markProber.f k x383000 x383001 x383002 x383003 x383004 x383005 1).bind fun bt416 => ((laws_markTable.f k x388000 x388001 bt416.1).bind fun bt418 => (if bt418.1 < 0 then (laws_FnExactHelpers.j1 k x2 x9 x13 true x347000 x347001 x347002 x347003 x347004 x347005 x348000 x348001 x374000 x374001 x374002 x374003 x374004 x374005 x400000 x400001 x400002 x400003 x400004 x400005) else ((laws_eqProber.f k x400000 x400001 x400002 x400003 x400004 x400005 x374000 x374001 x374002 x374003 x374004 x374005).bind fun t420 => (if t420 = true then ((laws_eqIntS.f k x13 x9).bind fun t421 => (laws_FnExactHelpers.j1 k x2 x9 x13 (!t421) x347000 x347001 x347002 x347003 x347004 x347005 x348000 x348001 x374000 x374001 x374002 x374003 x374004 x374005 x400000 x400001 x400002 x400003 x400004 x400005)) else (laws_FnExactHelpers.j1 k x2 x9 x13 true x347000 x347001 x347002 x347003 x347004 x347005 x348000 x348001 x374000 x374001 x374002 x374003 x374004 x374005 x400000 x400001 x400002 x400003 x400004 x400005)))))) else (some false)))) else (some false))))
def laws_FnExactHelpers.j1 : Nat → Int → List Int → List Int → Bool → List Int → Int → Int → Int → Int → Int → Int → List (S80) → List Int → Int → Int → Int → Int → Int → List Int → Int → Int → Int → Int → Int → Option (Bool)
  | 0, _, _, _, _, _, _, _, _, _, _, _, _, _, _, _, _, _, _, _, _, _, _, _, _ => none
  | k + 1, x2, x9, x13, x88, x347000, x347001, x347002, x347003, x347004, x347005, x348000, x348001, x374000, x374001, x374002, x374003, x374004, x374005, x400000, x400001, x400002, x400003, x400004, x400005 => if x88 = true then (some false) else ((laws_markProber.f k x400000 x400001 x400002 x400003 x400004 x400005 1).bind fun bt422 => ((laws_markIntS.f k x13 bt422.1).bind fun bt424 => ((laws_heldProber.f k bt422.2 x400001 x400002 x400003 x400004 x400005 1).bind fun t426 => (if t426 < 0 then (some false) else ((laws_heldIntS.f k bt424.2 t426).bind fun t427 => (if t427 < 0 then (some false) else (if t427 = bt424.1 then ((laws_toProber.f k x347000 x347001 x347002 x347003 x347004 x347005).bind fun bt428 => ((laws_toTable.f k x348000 x348001).bind fun bt436 => ((impl_Helpers.f k bt428.1 bt428.2.1 bt428.2.2.1 bt428.2.2.2.1 bt428.2.2.2.2.1 bt428.2.2.2.2.2 bt436.1 bt436.2 x2).bind fun bt440 => ((laws_eqProber.f k bt440.1 bt440.2.1 bt440.2.2.1 bt440.2.2.2.1 bt440.2.2.2.2.1 bt440.2.2.2.2.2.1 x374000 x374001 x374002 x374003 x374004 x374005).bind fun t452 => (if t452 = true then ((laws_eqIntS.f k bt440.2.2.2.2.2.2 x9).bind fun t453 => (laws_FnExactHelpers.j2 k bt424.2 bt424.1 (!t453) bt422.2 x400001 x400002 x400003 x400004 x400005)) else (laws_FnExactHelpers.j2 k bt424.2 bt424.1 true bt422.2 x400001 x400002 x400003 x400004 x400005)))))) else (some false))))))))
def laws_FnExactHelpers.j2 : Nat → List Int → Int → Bool → List Int → Int → Int → Int → Int → Int → Option (Bool)
  | 0, _, _, _, _, _, _, _, _, _ => none
  | k + 1, x13, x15, x126, x400000, x400001, x400002, x400003, x400004, x400005 => if x126 = true then (some false) else ((laws_heldProber.f k x400000 x400001 x400002 x400003 x400004 x400005 1).bind fun t454 => (if t454 < 0 then (some false) else ((laws_heldIntS.f k x13 t454).bind fun t455 => (if t455 < 0 then (some false) else (if t455 = x15 then (some true) else (some false))))))
end
def laws_FnExactHelpers.f (k : Nat) (l0_0 : List Int) (a0_1 : Int) (a0_2 : Int) (a0_3 : Int) (a0_4 : Int) (a0_5 : Int) (a1_0 : Int) (l1_1 : List (S80)) (a2 : Int) : Option (Bool) := (laws_szProber.f l0_0 a0_1 a0_2 a0_3 a0_4 a0_5 1048576).bind fun t348 => (if t348 < 0 then (some true) else ((laws_szTable.f a1_0 l1_1 t348).bind fun t349 => (if t349 < 0 then (some true) else ((laws_toProber.f k l0_0 a0_1 a0_2 a0_3 a0_4 a0_5).bind fun bt350 => ((laws_toTable.f k a1_0 l1_1).bind fun bt358 => ((spec_Helpers.f k bt350.1 bt350.2.1 bt350.2.2.1 bt350.2.2.2.1 bt350.2.2.2.2.1 bt350.2.2.2.2.2 bt358.1 bt358.2 a2).bind fun bt362 => ((laws_toProber.f k l0_0 a0_1 a0_2 a0_3 a0_4 a0_5).bind fun bt374 => ((laws_toTable.f k a1_0 l1_1).bind fun bt383 => ((impl_Helpers.f k bt374.1 bt374.2.1 bt374.2.2.1 bt374.2.2.2.1 bt374.2.2.2.2.1 bt374.2.2.2.2.2 bt383.1 bt383.2 a2).bind fun bt388 => ((laws_eqProber.f k bt388.1 bt388.2.1 bt388.2.2.1 bt388.2.2.2.1 bt388.2.2.2.2.1 bt388.2.2.2.2.2.1 bt362.1 bt362.2.1 bt362.2.2.1 bt362.2.2.2.1 bt362.2.2.2.2.1 bt362.2.2.2.2.2.1).bind fun t400 => (if t400 = true then ((laws_eqIntS.f k bt388.2.2.2.2.2.2 bt362.2.2.2.2.2.2).bind fun t401 => (laws_FnExactHelpers.j0 k a2 bt362.2.2.2.2.2.2 bt388.2.2.2.2.2.2 (!t401) l0_0 a0_1 a0_2 a0_3 a0_4 a0_5 a1_0 l1_1 bt362.1 bt362.2.1 bt362.2.2.1 bt362.2.2.2.1 bt362.2.2.2.2.1 bt362.2.2.2.2.2.1 bt374.1 bt374.2.1 bt374.2.2.1 bt374.2.2.2.1 bt374.2.2.2.2.1 bt374.2.2.2.2.2 bt383.1 bt383.2 bt388.1 bt388.2.1 bt388.2.2.1 bt388.2.2.2.1 bt388.2.2.2.2.1 bt388.2.2.2.2.2.1)) else (laws_FnExactHelpers.j0 k a2 bt362.2.2.2.2.2.2 bt388.2.2.2.2.2.2 true l0_0 a0_1 a0_2 a0_3 a0_4 a0_5 a1_0 l1_1 bt362.1 bt362.2.1 bt362.2.2.1 bt362.2.2.2.1 bt362.2.2.2.2.1 bt362.2.2.2.2.2.1 bt374.1 bt374.2.1 bt374.2.2.1 bt374.2.2.2.1 bt374.2.2.2.2.1 bt374.2.2.2.2.2 bt383.1 bt383.2 bt388.1 bt388.2.1 bt388.2.2.1 bt388.2.2.2.1 bt388.2.2.2.2.1 bt388.2.2.2.2.2.1))))))))))))
theorem laws_FnExactHelpers.mono_l : ∀ k, (∀ y0 y1 y2 y3 y4 y5 y6 y7 y8 y9 y10 y11 y12 y13 y14 y15 y16 y17 y18 y19 y20 y21 y22 y23 y24 y25 y26 y27 y28 y29 y30 y31, LeO (laws_FnExactHelpers.j0 k y0 y1 y2 y3 y4 y5 y6 y7 y8 y9 y10 y11 y12 y13 y14 y15 y16 y17 y18 y19 y20 y21 y22 y23 y24 y25 y26 y27 y28 y29 y30 y31) (laws_FnExactHelpers.j0 (k + 1) y0 y1 y2 y3 y4 y5 y6 y7 y8 y9 y10 y11 y12 y13 y14 y15 y16 y17 y18 y19 y20 y21 y22 y23 y24 y25 y26 y27 y28 y29 y30 y31)) ∧ (∀ y0 y1 y2 y3 y4 y5 y6 y7 y8 y9 y10 y11 y12 y13 y14 y15 y16 y17 y18 y19 y20 y21 y22 y23, LeO (laws_FnExactHelpers.j1 k y0 y1 y2 y3 y4 y5 y6 y7 y8 y9 y10 y11 y12 y13 y14 y15 y16 y17 y18 y19 y20 y21 y22 y23) (laws_FnExactHelpers.j1 (k + 1) y0 y1 y2 y3 y4 y5 y6 y7 y8 y9 y10 y11 y12 y13 y14 y15 y16 y17 y18 y19 y20 y21 y22 y23)) ∧ (∀ y0 y1 y2 y3 y4 y5 y6 y7 y8, LeO (laws_FnExactHelpers.j2 k y0 y1 y2 y3 y4 y5 y6 y7 y8) (laws_FnExactHelpers.j2 (k + 1) y0 y1 y2 y3 y4 y5 y6 y7 y8))
 | 0 => ⟨fun _ _ _ _ _ _ _ _ _ _ _ _ _ _ _ _ _ _ _ _ _ _ _ _ _ _ _ _ _ _ _ _ r h => by simp [laws_FnExactHelpers.j0] at h, fun _ _ _ _ _ _ _ _ _ _ _ _ _ _ _ _ _ _ _ _ _ _ _ _ r h => by simp [laws_FnExactHelpers.j1] at h, fun _ _ _ _ _ _ _ _ _ r h => by simp [laws_FnExactHelpers.j2] at h⟩
 | k + 1 => by
  obtain ⟨ih0, ih1, ih2⟩ := laws_FnExactHelpers.mono_l k
  refine ⟨?_, ?_, ?_⟩
  ·intro y0 y1 y2 y3 y4 y5 y6 y7 y8 y9 y10 y11 y12 y13 y14 y15 y16 y17 y18 y19 y20 y21 y22 y23 y24 y25 y26 y27 y28 y29 y30 y31
   unfold laws_FnExactHelpers.j0
   repeat' first
   | (with_reducible exact ih0 _ _ _ _ _ _ _ _ _ _ _ _ _ _ _ _ _ _ _ _ _ _ _ _ _ _ _ _ _ _ _ _)
   | (with_reducible exact ih1 _ _ _ _ _ _ _ _ _ _ _ _ _ _ _ _ _ _ _ _ _ _ _ _)
   | (with_reducible exact ih2 _ _ _ _ _ _ _ _ _)
   | (with_reducible exact impl_Helpers.mono _ _ _ _ _ _ _ _ _ _)
   | (with_reducible exact laws_eqIntS.mono _ _ _)
   | (with_reducible exact laws_eqProber.mono _ _ _ _ _ _ _ _ _ _ _ _ _)
   | (with_reducible exact laws_eqTable.mono _ _ _ _ _)
   | (with_reducible exact laws_heldIntS.mono _ _ _)
   | (with_reducible exact laws_heldProber.mono _ _ _ _ _ _ _ _)
   | (with_reducible exact laws_markIntS.mono _ _ _)
   | (with_reducible exact laws_markProber.mono _ _ _ _ _ _ _ _)
   | (with_reducible exact laws_markTable.mono _ _ _ _)
   | (with_reducible exact laws_toProber.mono _ _ _ _ _ _ _)
   | (with_reducible exact laws_toTable.mono _ _ _)
   | (with_reducible exact spec_Helpers.mono _ _ _ _ _ _ _ _ _ _)
   | (with_reducible exact LeO.refl _)
   | (with_reducible exact LeO.none _)
   | (with_reducible refine LeO.ite ?_ ?_)
   | (with_reducible refine LeO.bind ?_ (fun _ => ?_))
   | exact ih0 _ _ _ _ _ _ _ _ _ _ _ _ _ _ _ _ _ _ _ _ _ _ _ _ _ _ _ _ _ _ _ _
   | exact ih1 _ _ _ _ _ _ _ _ _ _ _ _ _ _ _ _ _ _ _ _ _ _ _ _
   | exact ih2 _ _ _ _ _ _ _ _ _
   | exact impl_Helpers.mono _ _ _ _ _ _ _ _ _ _
   | exact laws_eqIntS.mono _ _ _
   | exact laws_eqProber.mono _ _ _ _ _ _ _ _ _ _ _ _ _
   | exact laws_eqTable.mono _ _ _ _ _
   | exact laws_heldIntS.mono _ _ _
   | exact laws_heldProber.mono _ _ _ _ _ _ _ _
   | exact laws_markIntS.mono _ _ _
   | exact laws_markProber.mono _ _ _ _ _ _ _ _
   | exact laws_markTable.mono _ _ _ _
   | exact laws_toProber.mono _ _ _ _ _ _ _
   | exact laws_toTable.mono _ _ _
   | exact spec_Helpers.mono _ _ _ _ _ _ _ _ _ _
   | exact LeO.none _
   | refine LeO.ite ?_ ?_
   | refine LeO.bind ?_ (fun _ => ?_)
  ·intro y0 y1 y2 y3 y4 y5 y6 y7 y8 y9 y10 y11 y12 y13 y14 y15 y16 y17 y18 y19 y20 y21 y22 y23
   unfold laws_FnExactHelpers.j1
   repeat' first
   | (with_reducible exact ih0 _ _ _ _ _ _ _ _ _ _ _ _ _ _ _ _ _ _ _ _ _ _ _ _ _ _ _ _ _ _ _ _)
   | (with_reducible exact ih1 _ _ _ _ _ _ _ _ _ _ _ _ _ _ _ _ _ _ _ _ _ _ _ _)
   | (with_reducible exact ih2 _ _ _ _ _ _ _ _ _)
   | (with_reducible exact impl_Helpers.mono _ _ _ _ _ _ _ _ _ _)
   | (with_reducible exact laws_eqIntS.mono _ _ _)
   | (with_reducible exact laws_eqProber.mono _ _ _ _ _ _ _ _ _ _ _ _ _)
   | (with_reducible exact laws_eqTable.mono _ _ _ _ _)
   | (with_reducible exact laws_heldIntS.mono _ _ _)
   | (with_reducible exact laws_heldProber.mono _ _ _ _ _ _ _ _)
   | (with_reducible exact laws_markIntS.mono _ _ _)
   | (with_reducible exact laws_markProber.mono _ _ _ _ _ _ _ _)
   | (with_reducible exact laws_markTable.mono _ _ _ _)
   | (with_reducible exact laws_toProber.mono _ _ _ _ _ _ _)
   | (with_reducible exact laws_toTable.mono _ _ _)
   | (with_reducible exact spec_Helpers.mono _ _ _ _ _ _ _ _ _ _)
   | (with_reducible exact LeO.refl _)
   | (with_reducible exact LeO.none _)
   | (with_reducible refine LeO.ite ?_ ?_)
   | (with_reducible refine LeO.bind ?_ (fun _ => ?_))
   | exact ih0 _ _ _ _ _ _ _ _ _ _ _ _ _ _ _ _ _ _ _ _ _ _ _ _ _ _ _ _ _ _ _ _
   | exact ih1 _ _ _ _ _ _ _ _ _ _ _ _ _ _ _ _ _ _ _ _ _ _ _ _
   | exact ih2 _ _ _ _ _ _ _ _ _
   | exact impl_Helpers.mono _ _ _ _ _ _ _ _ _ _
   | exact laws_eqIntS.mono _ _ _
   | exact laws_eqProber.mono _ _ _ _ _ _ _ _ _ _ _ _ _
   | exact laws_eqTable.mono _ _ _ _ _
   | exact laws_heldIntS.mono _ _ _
   | exact laws_heldProber.mono _ _ _ _ _ _ _ _
   | exact laws_markIntS.mono _ _ _
   | exact laws_markProber.mono _ _ _ _ _ _ _ _
   | exact laws_markTable.mono _ _ _ _
   | exact laws_toProber.mono _ _ _ _ _ _ _
   | exact laws_toTable.mono _ _ _
   | exact spec_Helpers.mono _ _ _ _ _ _ _ _ _ _
   | exact LeO.none _
   | refine LeO.ite ?_ ?_
   | refine LeO.bind ?_ (fun _ => ?_)
  ·intro y0 y1 y2 y3 y4 y5 y6 y7 y8
   unfold laws_FnExactHelpers.j2
   repeat' first
   | (with_reducible exact ih0 _ _ _ _ _ _ _ _ _ _ _ _ _ _ _ _ _ _ _ _ _ _ _ _ _ _ _ _ _ _ _ _)
   | (with_reducible exact ih1 _ _ _ _ _ _ _ _ _ _ _ _ _ _ _ _ _ _ _ _ _ _ _ _)
   | (with_reducible exact ih2 _ _ _ _ _ _ _ _ _)
   | (with_reducible exact impl_Helpers.mono _ _ _ _ _ _ _ _ _ _)
   | (with_reducible exact laws_eqIntS.mono _ _ _)
   | (with_reducible exact laws_eqProber.mono _ _ _ _ _ _ _ _ _ _ _ _ _)
   | (with_reducible exact laws_eqTable.mono _ _ _ _ _)
   | (with_reducible exact laws_heldIntS.mono _ _ _)
   | (with_reducible exact laws_heldProber.mono _ _ _ _ _ _ _ _)
   | (with_reducible exact laws_markIntS.mono _ _ _)
   | (with_reducible exact laws_markProber.mono _ _ _ _ _ _ _ _)
   | (with_reducible exact laws_markTable.mono _ _ _ _)
   | (with_reducible exact laws_toProber.mono _ _ _ _ _ _ _)
   | (with_reducible exact laws_toTable.mono _ _ _)
   | (with_reducible exact spec_Helpers.mono _ _ _ _ _ _ _ _ _ _)
   | (with_reducible exact LeO.refl _)
   | (with_reducible exact LeO.none _)
   | (with_reducible refine LeO.ite ?_ ?_)
   | (with_reducible refine LeO.bind ?_ (fun _ => ?_))
   | exact ih0 _ _ _ _ _ _ _ _ _ _ _ _ _ _ _ _ _ _ _ _ _ _ _ _ _ _ _ _ _ _ _ _
   | exact ih1 _ _ _ _ _ _ _ _ _ _ _ _ _ _ _ _ _ _ _ _ _ _ _ _
   | exact ih2 _ _ _ _ _ _ _ _ _
   | exact impl_Helpers.mono _ _ _ _ _ _ _ _ _ _
   | exact laws_eqIntS.mono _ _ _
   | exact laws_eqProber.mono _ _ _ _ _ _ _ _ _ _ _ _ _
   | exact laws_eqTable.mono _ _ _ _ _
   | exact laws_heldIntS.mono _ _ _
   | exact laws_heldProber.mono _ _ _ _ _ _ _ _
   | exact laws_markIntS.mono _ _ _
   | exact laws_markProber.mono _ _ _ _ _ _ _ _
   | exact laws_markTable.mono _ _ _ _
   | exact laws_toProber.mono _ _ _ _ _ _ _
   | exact laws_toTable.mono _ _ _
   | exact spec_Helpers.mono _ _ _ _ _ _ _ _ _ _
   | exact LeO.none _
   | refine LeO.ite ?_ ?_
   | refine LeO.bind ?_ (fun _ => ?_)
theorem laws_FnExactHelpers.mono : ∀ a0 a1 a2 a3 a4 a5 a6 a7 a8 k, LeO (laws_FnExactHelpers.f k a0 a1 a2 a3 a4 a5 a6 a7 a8) (laws_FnExactHelpers.f (k + 1) a0 a1 a2 a3 a4 a5 a6 a7 a8) := by
 intro a0 a1 a2 a3 a4 a5 a6 a7 a8 k
 obtain ⟨ih0, ih1, ih2⟩ := laws_FnExactHelpers.mono_l k
 unfold laws_FnExactHelpers.f
 repeat' first
   | (with_reducible exact ih0 _ _ _ _ _ _ _ _ _ _ _ _ _ _ _ _ _ _ _ _ _ _ _ _ _ _ _ _ _ _ _ _)
   | (with_reducible exact ih1 _ _ _ _ _ _ _ _ _ _ _ _ _ _ _ _ _ _ _ _ _ _ _ _)
   | (with_reducible exact ih2 _ _ _ _ _ _ _ _ _)
   | (with_reducible exact impl_Helpers.mono _ _ _ _ _ _ _ _ _ _)
   | (with_reducible exact laws_eqIntS.mono _ _ _)
   | (with_reducible exact laws_eqProber.mono _ _ _ _ _ _ _ _ _ _ _ _ _)
   | (with_reducible exact laws_eqTable.mono _ _ _ _ _)
   | (with_reducible exact laws_heldIntS.mono _ _ _)
   | (with_reducible exact laws_heldProber.mono _ _ _ _ _ _ _ _)
   | (with_reducible exact laws_markIntS.mono _ _ _)
   | (with_reducible exact laws_markProber.mono _ _ _ _ _ _ _ _)
   | (with_reducible exact laws_markTable.mono _ _ _ _)
   | (with_reducible exact laws_toProber.mono _ _ _ _ _ _ _)
   | (with_reducible exact laws_toTable.mono _ _ _)
   | (with_reducible exact spec_Helpers.mono _ _ _ _ _ _ _ _ _ _)
   | (with_reducible exact LeO.refl _)
   | (with_reducible exact LeO.none _)
   | (with_reducible refine LeO.ite ?_ ?_)
   | (with_reducible refine LeO.bind ?_ (fun _ => ?_))
   | exact ih0 _ _ _ _ _ _ _ _ _ _ _ _ _ _ _ _ _ _ _ _ _ _ _ _ _ _ _ _ _ _ _ _
   | exact ih1 _ _ _ _ _ _ _ _ _ _ _ _ _ _ _ _ _ _ _ _ _ _ _ _
   | exact ih2 _ _ _ _ _ _ _ _ _
   | exact impl_Helpers.mono _ _ _ _ _ _ _ _ _ _
   | exact laws_eqIntS.mono _ _ _
   | exact laws_eqProber.mono _ _ _ _ _ _ _ _ _ _ _ _ _
   | exact laws_eqTable.mono _ _ _ _ _
   | exact laws_heldIntS.mono _ _ _
   | exact laws_heldProber.mono _ _ _ _ _ _ _ _
   | exact laws_markIntS.mono _ _ _
   | exact laws_markProber.mono _ _ _ _ _ _ _ _
   | exact laws_markTable.mono _ _ _ _
   | exact laws_toProber.mono _ _ _ _ _ _ _
   | exact laws_toTable.mono _ _ _
   | exact spec_Helpers.mono _ _ _ _ _ _ _ _ _ _
   | exact LeO.none _
   | refine LeO.ite ?_ ?_
   | refine LeO.bind ?_ (fun _ => ?_)
def laws_FnExactHelpers.T8 : Bool × List (List Nat × List Nat) := (true, [([], []), ([0], [0]), ([], []), ([2, 1], [2]), ([], []), ([1, 3, 4, 3], [1, 3, 4]), ([5], [5]), ([6], [6]), ([6], [6]), ([], []), ([9, 7, 5, 0, 1, 2, 3, 4, 5, 6, 7, 9], [7, 9]), ([8, 10, 0, 1, 2, 3, 4, 5, 6, 7, 8, 9, 10], [8])])
def laws_FnExactHelpers.B8 : List Nat := [0, 1, 0, 7, 0, 31, 63, 127, 127, 0, 767, 2047]
theorem laws_FnExactHelpers.tab8 : rtab .any (opsOf Try.f12 8) = laws_FnExactHelpers.T8 := by kernel_rfl
theorem laws_FnExactHelpers.bits8 : waitsOk laws_FnExactHelpers.T8.2 laws_FnExactHelpers.B8 = true := by kernel_rfl
def laws_FnExactHelpers.T35 : Bool × List (List Nat × List Nat) := (true, [([], []), ([0], [0]), ([], []), ([2, 1], [2]), ([], []), ([1, 3, 4, 3], [1, 3, 4]), ([5], [5]), ([6], [6]), ([6], [6]), ([], []), ([9, 7, 5, 0, 1, 2, 3, 4, 5, 6, 7, 9], [7, 9]), ([8, 10, 0, 1, 2, 3, 4, 5, 6, 7, 8, 9, 10], [8])])
def laws_FnExactHelpers.B35 : List Nat := [0, 1, 0, 7, 0, 31, 63, 127, 127, 0, 767, 2047]
theorem laws_FnExactHelpers.tab35 : rtab .any (opsOf Try.f12 35) = laws_FnExactHelpers.T35 := by kernel_rfl
theorem laws_FnExactHelpers.bits35 : waitsOk laws_FnExactHelpers.T35.2 laws_FnExactHelpers.B35 = true := by kernel_rfl
set_option maxHeartbeats 8000000 in
set_option maxRecDepth 100000 in
theorem laws_FnExactHelpers.calls (k : Nat) (A0_0 : Option Addr) (c0_0 : Nat) (l0_0 : List Int) (a0_1 : Int) (a0_2 : Int) (a0_3 : Int) (a0_4 : Int) (a0_5 : Int) (a1_0 : Int) (A1_1 : Option Addr) (c1_1 : Nat) (l1_1 : List (S80)) (a2 : Int) (r : Bool) (w : World) (hr0_0 : Kd.C (Kd.int .i64) w A0_0 l0_0.length l0_0) (hc0_0 : l0_0.length ≤ c0_0) (hr1_1 : Kd.C k80 w A1_1 l1_1.length l1_1) (hc1_1 : l1_1.length ≤ c1_1) (h : laws_FnExactHelpers.f k l0_0 a0_1 a0_2 a0_3 a0_4 a0_5 a1_0 l1_1 a2 = some r) :
  Calls Try.prog 12 #[.agg #[.slice A0_0 l0_0.length c0_0, .int .i64 a0_1, .int .i64 a0_2, .int .i64 a0_3, .int .i64 a0_4, .int .i64 a0_5], .agg #[.int .i64 a1_0, .slice A1_1 l1_1.length c1_1], .int .i64 a2] w fun e w' => e = .returned (.bool r) ∧ Below w.heap.size w w' := by
 have hu88 := Try.underlying88
 have hu37 := Try.underlying37
 have hu90 := Try.underlying90
 have hu41 := Try.underlying41
 have HR0_0 := Aside0.mk hr0_0; have HC0_0 := Aside0.mk hc0_0; clear hr0_0 hc0_0; have HR1_1 := Aside0.mk hr1_1; have HC1_1 := Aside0.mk hc1_1; clear hr1_1 hc1_1
 have HB := Aside0.mk (Below.refl w.heap.size w)
 have H : ((laws_szProber.f l0_0 a0_1 a0_2 a0_3 a0_4 a0_5 1048576).bind fun t348 => (if t348 < 0 then (some true) else ((laws_szTable.f a1_0 l1_1 t348).bind fun t349 => (if t349 < 0 then (some true) else ((laws_toProber.f k l0_0 a0_1 a0_2 a0_3 a0_4 a0_5).bind fun bt350 => ((laws_toTable.f k a1_0 l1_1).bind fun bt358 => ((spec_Helpers.f k bt350.1 bt350.2.1 bt350.2.2.1 bt350.2.2.2.1 bt350.2.2.2.2.1 bt350.2.2.2.2.2 bt358.1 bt358.2 a2).bind fun bt362 => ((laws_toProber.f k l0_0 a0_1 a0_2 a0_3 a0_4 a0_5).bind fun bt374 => ((laws_toTable.f k a1_0 l1_1).bind fun bt383 => ((impl_Helpers.f k bt374.1 bt374.2.1 bt374.2.2.1 bt374.2.2.2.1 bt374.2.2.2.2.1 bt374.2.2.2.2.2 bt383.1 bt383.2 a2).bind fun bt388 => ((laws_eqProber.f k bt388.1 bt388.2.1 bt388.2.2.1 bt388.2.2.2.1 bt388.2.2.2.2.1 bt388.2.2.2.2.2.1 bt362.1 bt362.2.1 bt362.2.2.1 bt362.2.2.2.1 bt362.2.2.2.2.1 bt362.2.2.2.2.2.1).bind fun t400 => (if t400 = true then ((laws_eqIntS.f k bt388.2.2.2.2.2.2 bt362.2.2.2.2.2.2).bind fun t401 => (laws_FnExactHelpers.j0 k a2 bt362.2.2.2.2.2.2 bt388.2.2.2.2.2.2 (!t401) l0_0 a0_1 a0_2 a0_3 a0_4 a0_5 a1_0 l1_1 bt362.1 bt362.2.1 bt362.2.2.1 bt362.2.2.2.1 bt362.2.2.2.2.1 bt362.2.2.2.2.2.1 bt374.1 bt374.2.1 bt374.2.2.1 bt374.2.2.2.1 bt374.2.2.2.2.1 bt374.2.2.2.2.2 bt383.1 bt383.2 bt388.1 bt388.2.1 bt388.2.2.1 bt388.2.2.2.1 bt388.2.2.2.2.1 bt388.2.2.2.2.2.1)) else (laws_FnExactHelpers.j0 k a2 bt362.2.2.2.2.2.2 bt388.2.2.2.2.2.2 true l0_0 a0_1 a0_2 a0_3 a0_4 a0_5 a1_0 l1_1 bt362.1 bt362.2.1 bt362.2.2.1 bt362.2.2.2.1 bt362.2.2.2.2.1 bt362.2.2.2.2.2.1 bt374.1 bt374.2.1 bt374.2.2.1 bt374.2.2.2.1 bt374.2.2.2.2.1 bt374.2.2.2.2.2 bt383.1 bt383.2 bt388.1 bt388.2.1 bt388.2.2.1 bt388.2.2.2.1 bt388.2.2.2.2.1 bt388.2.2.2.2.2.1))))))))))))) = some r := h
 clear h; replace H := Option.bind_eq_some_iff.mp H; obtain ⟨t348, A40, H⟩ := H; have A4 := Aside0.mk A40; clear A40; go_enter Try.func12, Try.ntmps12
 replace H := Aside0.mk H
 go_wp2_with (first | ((with_reducible refine gate_dst (N := 3) rfl ?_); refine box_event ?hg (N := 3) ?hd (cs := #[.slice A0_0 l0_0.length c0_0, .int .i64 a0_1, .int .i64 a0_2, .int .i64 a0_3, .int .i64 a0_4, .int .i64 a0_5]) (t := 88) ?hr ?_; (case hd => rfl); (case hg => rfl); (case hr => first | (go_simp; done) | (go_simp; rfl)); intro gb346 hg w5 hbox hb; have n_ := an (below_step (by exact bel0) hb) (an (hbox) (an ((by rw [hg]; exact (below_size (by exact bel0)) : w.heap.size ≤ gb346)) (an ((by rw [hg]; exact (below_size (by exact bel0)) : w.heap.size ≤ gb346)) (trivial)))); clear HB; obtain ⟨HB, BK346, GW346, GE346, -⟩ := n_; clear hb hbox hg) | ((with_reducible refine gate_dst (N := 4) rfl ?_); refine box_event ?hg (N := 4) ?hd (cs := #[.int .i64 a1_0, .slice A1_1 l1_1.length c1_1]) (t := 37) ?hr ?_; (case hd => rfl); (case hg => rfl); (case hr => first | (go_simp; done) | (go_simp; rfl)); intro gb347 hg w6 hbox hb; have n_ := an (blk_below (blk_nw BK346.out) hb) (an (below_step (by exact bel0) hb) (an (hbox) (an ((by rw [hg]; exact (below_size (by exact bel0)) : w.heap.size ≤ gb347)) (an ((by rw [hg]; exact (below_size (by exact bel0)) : w.heap.size ≤ gb347)) (an ((by rw [hg]; exact Nat.ne_of_lt (blk_lt (blk_nw BK346.out)) : gb346 ≠ gb347)) (an ((by rw [hg]; exact Nat.ne_of_gt (blk_lt (blk_nw BK346.out)) : gb347 ≠ gb346)) (trivial))))))); clear BK346 HB; obtain ⟨BK346, HB, BK347, GW347, GE347, NB346_347, NB347_346, -⟩ := n_; clear hb hbox hg; have hnb7 := NB346_347.out; have hnc7 := NB347_346.out; obtain ⟨hcz8_0, hcz8_1, hcz8_2, hcz8_3, hcz8_4, hcz8_5⟩ := blkz6 BK346.out; have hfz8_0 := blkf BK346.out) | ((with_reducible refine gate_callee (f := 56) rfl ?_); refine goesL_ (some 21) rfl rfl Try.func56 (by kernel_rfl) rfl #[.agg #[.slice A0_0 l0_0.length c0_0, .int .i64 a0_1, .int .i64 a0_2, .int .i64 a0_3, .int .i64 a0_4, .int .i64 a0_5], .int .i64 1048576] rfl (by (try simp only [List.map_toArray, List.map_cons, List.map_nil]); first | done | rfl | (simp only [List.length_drop, List.length_take]; rfl)) ?_; (with_reducible refine (laws_szProber.calls _ _ l0_0 a0_1 a0_2 a0_3 a0_4 a0_5 1048576 t348 _ ?side1 ?side2 A4.out).mono ?_); (case side1 => repeat (first | exact (Kd.C_below HR0_0.out HB.out) | (with_reducible refine Kd.C_alloc ?_ _) | (with_reducible refine Kd.C_drewN ?_ _) | (with_reducible refine Kd.C_drew ?_))); (case side2 => exact HC0_0.out); rintro e w9 ⟨rfl, hb⟩; refine ⟨_, rfl, ?_⟩; have n_ := an (blk_below (blk_nw BK346.out) hb) (an (blk_below (blk_nw BK347.out) hb) (an (below_step (by exact bel0) hb) (trivial))); clear BK346 BK347 HB; obtain ⟨BK346, BK347, HB, -⟩ := n_; (try clear hb); (try clear hb2); (try clear hk); (try clear hi); refine Stop.out ?_))
 refine Stop.mk ?_
 replace H := H.out
 by_cases c10 : t348 < 0
 ·rw [if_pos c10] at H; have c10b0 : decide (t348 < 0) = true := decide_eq_true c10; clear c10; (try simp only [c10b0])
  obtain rfl := Option.some.inj H
  go_wp2
  go_ret
  exact ⟨by first | rfl | (simp [errW_none, errW_some] <;> rfl) | (simp [*, errW_none, errW_some] <;> rfl), by exact bel0⟩
 ·rw [if_neg c10] at H; have c10b0 : decide (t348 < 0) = false := decide_eq_false c10; clear c10; (try simp only [c10b0]); replace H := Option.bind_eq_some_iff.mp H; obtain ⟨t349, A110, H⟩ := H; have A11 := Aside0.mk A110; clear A110; have hnb12 := NB347_346.out; have hnc12 := NB346_347.out; obtain ⟨hcz13_0, hcz13_1⟩ := blkz2 BK347.out; have hfz13_0 := blkf BK347.out
  replace H := Aside0.mk H
  go_wp2_with (first | ((with_reducible refine gate_callee (f := 23) rfl ?_); refine goesL_ (some 26) rfl rfl Try.func23 (by kernel_rfl) rfl #[.agg #[.int .i64 a1_0, .slice A1_1 l1_1.length c1_1], .int .i64 t348] rfl (by (try simp only [List.map_toArray, List.map_cons, List.map_nil]); first | done | rfl | (simp only [List.length_drop, List.length_take]; rfl)) ?_; (with_reducible refine (laws_szTable.calls a1_0 _ _ l1_1 t348 t349 _ ?side1 ?side2 A11.out).mono ?_); (case side1 => repeat (first | exact (Kd.C_below HR1_1.out HB.out) | (with_reducible refine Kd.C_alloc ?_ _) | (with_reducible refine Kd.C_drewN ?_ _) | (with_reducible refine Kd.C_drew ?_))); (case side2 => exact HC1_1.out); rintro e w14 ⟨rfl, hb⟩; refine ⟨_, rfl, ?_⟩; have n_ := an (blk_below (blk_nw BK346.out) hb) (an (blk_below (blk_nw BK347.out) hb) (an (below_step (by exact bel0) hb) (trivial))); clear BK346 BK347 HB; obtain ⟨BK346, BK347, HB, -⟩ := n_; (try clear hb); (try clear hb2); (try clear hk); (try clear hi); refine Stop.out ?_))
  refine Stop.mk ?_
  replace H := H.out
  by_cases c15 : t349 < 0
  ·rw [if_pos c15] at H; have c15b0 : decide (t349 < 0) = true := decide_eq_true c15; clear c15; (try simp only [c15b0])
   obtain rfl := Option.some.inj H
   go_wp2
   go_ret
   exact ⟨by first | rfl | (simp [errW_none, errW_some] <;> rfl) | (simp [*, errW_none, errW_some] <;> rfl), by exact bel0⟩
  ·rw [if_neg c15] at H; have c15b0 : decide (t349 < 0) = false := decide_eq_false c15; clear c15; (try simp only [c15b0]); replace H := Option.bind_eq_some_iff.mp H
   obtain ⟨⟨t350, t353, t354, t355, t356, t357⟩, A160, H⟩ := H
   replace H : ((laws_toTable.f k a1_0 l1_1).bind fun bt358 => ((spec_Helpers.f k t350 t353 t354 t355 t356 t357 bt358.1 bt358.2 a2).bind fun bt362 => ((laws_toProber.f k l0_0 a0_1 a0_2 a0_3 a0_4 a0_5).bind fun bt374 => ((laws_toTable.f k a1_0 l1_1).bind fun bt383 => ((impl_Helpers.f k bt374.1 bt374.2.1 bt374.2.2.1 bt374.2.2.2.1 bt374.2.2.2.2.1 bt374.2.2.2.2.2 bt383.1 bt383.2 a2).bind fun bt388 => ((laws_eqProber.f k bt388.1 bt388.2.1 bt388.2.2.1 bt388.2.2.2.1 bt388.2.2.2.2.1 bt388.2.2.2.2.2.1 bt362.1 bt362.2.1 bt362.2.2.1 bt362.2.2.2.1 bt362.2.2.2.2.1 bt362.2.2.2.2.2.1).bind fun t400 => (if t400 = true then ((laws_eqIntS.f k bt388.2.2.2.2.2.2 bt362.2.2.2.2.2.2).bind fun t401 => (laws_FnExactHelpers.j0 k a2 bt362.2.2.2.2.2.2 bt388.2.2.2.2.2.2 (!t401) l0_0 a0_1 a0_2 a0_3 a0_4 a0_5 a1_0 l1_1 bt362.1 bt362.2.1 bt362.2.2.1 bt362.2.2.2.1 bt362.2.2.2.2.1 bt362.2.2.2.2.2.1 bt374.1 bt374.2.1 bt374.2.2.1 bt374.2.2.2.1 bt374.2.2.2.2.1 bt374.2.2.2.2.2 bt383.1 bt383.2 bt388.1 bt388.2.1 bt388.2.2.1 bt388.2.2.2.1 bt388.2.2.2.2.1 bt388.2.2.2.2.2.1)) else (laws_FnExactHelpers.j0 k a2 bt362.2.2.2.2.2.2 bt388.2.2.2.2.2.2 true l0_0 a0_1 a0_2 a0_3 a0_4 a0_5 a1_0 l1_1 bt362.1 bt362.2.1 bt362.2.2.1 bt362.2.2.2.1 bt362.2.2.2.2.1 bt362.2.2.2.2.2.1 bt374.1 bt374.2.1 bt374.2.2.1 bt374.2.2.2.1 bt374.2.2.2.2.1 bt374.2.2.2.2.2 bt383.1 bt383.2 bt388.1 bt388.2.1 bt388.2.2.1 bt388.2.2.2.1 bt388.2.2.2.2.1 bt388.2.2.2.2.2.1)))))))) = some r := H
   have A16 := Aside0.mk A160; clear A160; replace H := Option.bind_eq_some_iff.mp H
   obtain ⟨⟨t358, t359⟩, A170, H⟩ := H
   replace H : ((spec_Helpers.f k t350 t353 t354 t355 t356 t357 t358 t359 a2).bind fun bt362 => ((laws_toProber.f k l0_0 a0_1 a0_2 a0_3 a0_4 a0_5).bind fun bt374 => ((laws_toTable.f k a1_0 l1_1).bind fun bt383 => ((impl_Helpers.f k bt374.1 bt374.2.1 bt374.2.2.1 bt374.2.2.2.1 bt374.2.2.2.2.1 bt374.2.2.2.2.2 bt383.1 bt383.2 a2).bind fun bt388 => ((laws_eqProber.f k bt388.1 bt388.2.1 bt388.2.2.1 bt388.2.2.2.1 bt388.2.2.2.2.1 bt388.2.2.2.2.2.1 bt362.1 bt362.2.1 bt362.2.2.1 bt362.2.2.2.1 bt362.2.2.2.2.1 bt362.2.2.2.2.2.1).bind fun t400 => (if t400 = true then ((laws_eqIntS.f k bt388.2.2.2.2.2.2 bt362.2.2.2.2.2.2).bind fun t401 => (laws_FnExactHelpers.j0 k a2 bt362.2.2.2.2.2.2 bt388.2.2.2.2.2.2 (!t401) l0_0 a0_1 a0_2 a0_3 a0_4 a0_5 a1_0 l1_1 bt362.1 bt362.2.1 bt362.2.2.1 bt362.2.2.2.1 bt362.2.2.2.2.1 bt362.2.2.2.2.2.1 bt374.1 bt374.2.1 bt374.2.2.1 bt374.2.2.2.1 bt374.2.2.2.2.1 bt374.2.2.2.2.2 bt383.1 bt383.2 bt388.1 bt388.2.1 bt388.2.2.1 bt388.2.2.2.1 bt388.2.2.2.2.1 bt388.2.2.2.2.2.1)) else (laws_FnExactHelpers.j0 k a2 bt362.2.2.2.2.2.2 bt388.2.2.2.2.2.2 true l0_0 a0_1 a0_2 a0_3 a0_4 a0_5 a1_0 l1_1 bt362.1 bt362.2.1 bt362.2.2.1 bt362.2.2.2.1 bt362.2.2.2.2.1 bt362.2.2.2.2.2.1 bt374.1 bt374.2.1 bt374.2.2.1 bt374.2.2.2.1 bt374.2.2.2.2.1 bt374.2.2.2.2.2 bt383.1 bt383.2 bt388.1 bt388.2.1 bt388.2.2.1 bt388.2.2.2.1 bt388.2.2.2.2.1 bt388.2.2.2.2.2.1))))))) = some r := H
   have A17 := Aside0.mk A170; clear A170; replace H := Option.bind_eq_some_iff.mp H
   obtain ⟨⟨t362, t365, t366, t367, t368, t369, t370⟩, A180, H⟩ := H
   replace H : ((laws_toProber.f k l0_0 a0_1 a0_2 a0_3 a0_4 a0_5).bind fun bt374 => ((laws_toTable.f k a1_0 l1_1).bind fun bt383 => ((impl_Helpers.f k bt374.1 bt374.2.1 bt374.2.2.1 bt374.2.2.2.1 bt374.2.2.2.2.1 bt374.2.2.2.2.2 bt383.1 bt383.2 a2).bind fun bt388 => ((laws_eqProber.f k bt388.1 bt388.2.1 bt388.2.2.1 bt388.2.2.2.1 bt388.2.2.2.2.1 bt388.2.2.2.2.2.1 t362 t365 t366 t367 t368 t369).bind fun t400 => (if t400 = true then ((laws_eqIntS.f k bt388.2.2.2.2.2.2 t370).bind fun t401 => (laws_FnExactHelpers.j0 k a2 t370 bt388.2.2.2.2.2.2 (!t401) l0_0 a0_1 a0_2 a0_3 a0_4 a0_5 a1_0 l1_1 t362 t365 t366 t367 t368 t369 bt374.1 bt374.2.1 bt374.2.2.1 bt374.2.2.2.1 bt374.2.2.2.2.1 bt374.2.2.2.2.2 bt383.1 bt383.2 bt388.1 bt388.2.1 bt388.2.2.1 bt388.2.2.2.1 bt388.2.2.2.2.1 bt388.2.2.2.2.2.1)) else (laws_FnExactHelpers.j0 k a2 t370 bt388.2.2.2.2.2.2 true l0_0 a0_1 a0_2 a0_3 a0_4 a0_5 a1_0 l1_1 t362 t365 t366 t367 t368 t369 bt374.1 bt374.2.1 bt374.2.2.1 bt374.2.2.2.1 bt374.2.2.2.2.1 bt374.2.2.2.2.2 bt383.1 bt383.2 bt388.1 bt388.2.1 bt388.2.2.1 bt388.2.2.2.1 bt388.2.2.2.2.1 bt388.2.2.2.2.2.1)))))) = some r := H
   have A18 := Aside0.mk A180; clear A180; replace H := Option.bind_eq_some_iff.mp H
   obtain ⟨⟨t374, t377, t378, t379, t380, t381⟩, A190, H⟩ := H
   replace H : ((laws_toTable.f k a1_0 l1_1).bind fun bt383 => ((impl_Helpers.f k t374 t377 t378 t379 t380 t381 bt383.1 bt383.2 a2).bind fun bt388 => ((laws_eqProber.f k bt388.1 bt388.2.1 bt388.2.2.1 bt388.2.2.2.1 bt388.2.2.2.2.1 bt388.2.2.2.2.2.1 t362 t365 t366 t367 t368 t369).bind fun t400 => (if t400 = true then ((laws_eqIntS.f k bt388.2.2.2.2.2.2 t370).bind fun t401 => (laws_FnExactHelpers.j0 k a2 t370 bt388.2.2.2.2.2.2 (!t401) l0_0 a0_1 a0_2 a0_3 a0_4 a0_5 a1_0 l1_1 t362 t365 t366 t367 t368 t369 t374 t377 t378 t379 t380 t381 bt383.1 bt383.2 bt388.1 bt388.2.1 bt388.2.2.1 bt388.2.2.2.1 bt388.2.2.2.2.1 bt388.2.2.2.2.2.1)) else (laws_FnExactHelpers.j0 k a2 t370 bt388.2.2.2.2.2.2 true l0_0 a0_1 a0_2 a0_3 a0_4 a0_5 a1_0 l1_1 t362 t365 t366 t367 t368 t369 t374 t377 t378 t379 t380 t381 bt383.1 bt383.2 bt388.1 bt388.2.1 bt388.2.2.1 bt388.2.2.2.1 bt388.2.2.2.2.1 bt388.2.2.2.2.2.1))))) = some r := H
   have A19 := Aside0.mk A190; clear A190; replace H := Option.bind_eq_some_iff.mp H
   obtain ⟨⟨t383, t384⟩, A200, H⟩ := H
   replace H : ((impl_Helpers.f k t374 t377 t378 t379 t380 t381 t383 t384 a2).bind fun bt388 => ((laws_eqProber.f k bt388.1 bt388.2.1 bt388.2.2.1 bt388.2.2.2.1 bt388.2.2.2.2.1 bt388.2.2.2.2.2.1 t362 t365 t366 t367 t368 t369).bind fun t400 => (if t400 = true then ((laws_eqIntS.f k bt388.2.2.2.2.2.2 t370).bind fun t401 => (laws_FnExactHelpers.j0 k a2 t370 bt388.2.2.2.2.2.2 (!t401) l0_0 a0_1 a0_2 a0_3 a0_4 a0_5 a1_0 l1_1 t362 t365 t366 t367 t368 t369 t374 t377 t378 t379 t380 t381 t383 t384 bt388.1 bt388.2.1 bt388.2.2.1 bt388.2.2.2.1 bt388.2.2.2.2.1 bt388.2.2.2.2.2.1)) else (laws_FnExactHelpers.j0 k a2 t370 bt388.2.2.2.2.2.2 true l0_0 a0_1 a0_2 a0_3 a0_4 a0_5 a1_0 l1_1 t362 t365 t366 t367 t368 t369 t374 t377 t378 t379 t380 t381 t383 t384 bt388.1 bt388.2.1 bt388.2.2.1 bt388.2.2.2.1 bt388.2.2.2.2.1 bt388.2.2.2.2.2.1)))) = some r := H
   have A20 := Aside0.mk A200; clear A200; replace H := Option.bind_eq_some_iff.mp H
   obtain ⟨⟨t388, t391, t392, t393, t394, t395, t396⟩, A210, H⟩ := H
   replace H : ((laws_eqProber.f k t388 t391 t392 t393 t394 t395 t362 t365 t366 t367 t368 t369).bind fun t400 => (if t400 = true then ((laws_eqIntS.f k t396 t370).bind fun t401 => (laws_FnExactHelpers.j0 k a2 t370 t396 (!t401) l0_0 a0_1 a0_2 a0_3 a0_4 a0_5 a1_0 l1_1 t362 t365 t366 t367 t368 t369 t374 t377 t378 t379 t380 t381 t383 t384 t388 t391 t392 t393 t394 t395)) else (laws_FnExactHelpers.j0 k a2 t370 t396 true l0_0 a0_1 a0_2 a0_3 a0_4 a0_5 a1_0 l1_1 t362 t365 t366 t367 t368 t369 t374 t377 t378 t379 t380 t381 t383 t384 t388 t391 t392 t393 t394 t395))) = some r := H
   have A21 := Aside0.mk A210; clear A210; have HC22 := Aside0.mk H; clear H
   try go_wp2
   have n_ := an (blk_drew BK346.out) (an (blk_drew BK347.out) (an (below_drew1 HB.out) (trivial)))
   clear BK346 BK347 HB
   obtain ⟨BK346, BK347, HB, -⟩ := n_
   refine start_ (n := 12) (S := fun w' => w'.cell? ⟨gb346, 0, none⟩ = some (.slice A0_0 l0_0.length c0_0) ∧ w'.cell? ⟨gb346, 1, none⟩ = some (.int .i64 a0_1) ∧ w'.cell? ⟨gb346, 2, none⟩ = some (.int .i64 a0_2) ∧ w'.cell? ⟨gb346, 3, none⟩ = some (.int .i64 a0_3) ∧ w'.cell? ⟨gb346, 4, none⟩ = some (.int .i64 a0_4) ∧ w'.cell? ⟨gb346, 5, none⟩ = some (.int .i64 a0_5) ∧ w'.cell? ⟨gb347, 0, none⟩ = some (.int .i64 a1_0) ∧ w'.cell? ⟨gb347, 1, none⟩ = some (.slice A1_1 l1_1.length c1_1)) (ds := []) #[false, false, false, false, false, false, false, false, false, false, false, false] (by kernel_rfl) rfl rfl ⟨(blk_cell BK346.out 0).trans rfl, (blk_cell BK346.out 1).trans rfl, (blk_cell BK346.out 2).trans rfl, (blk_cell BK346.out 3).trans rfl, (blk_cell BK346.out 4).trans rfl, (blk_cell BK346.out 5).trans rfl, (blk_cell BK347.out 0).trans rfl, (blk_cell BK347.out 1).trans rfl⟩ (fun hHeld => ?_); refine with_tabW laws_FnExactHelpers.tab8 laws_FnExactHelpers.bits8 (fun HT_ HW_ => ?_)
   generalize w14.drew = w23 at BK346 BK347 HB hHeld ⊢
   refine pure_ (i := 4) (N := some 34) (v := ?_) (a' := ?_) #[false, false, false, false, true, false, false, false, false, false, false, false] rfl rfl (any_of HT_.out (by kernel_rfl)) (fun _ _ _ h => h) (Or.inl ⟨by rfl, ?_⟩) ?_ ?_
   rotate_left; · intro w'; go_simp; with_reducible rfl
   rotate_left; · simp only [Act.put, List.setIfInBounds_toArray, List.set_cons_zero, List.set_cons_succ, i64_w, i32_w]; rfl
   refine take_ (i := 0) (N := some 30) (v := ?_) (a' := ?_) #[true, false, false, false, true, false, false, false, false, false, false, false] rfl rfl (take_ofW HT_.out HW_.out (by kernel_rfl)) (fun _ _ _ h => h) (Or.inl ⟨by rfl, ?_⟩) hHeld ?_ ?_
   rotate_left
   ·rintro w' ⟨s0, s1, s2, s3, s4, s5, s6, s7⟩
    go_simp
    with_reducible rfl
   rotate_left; · simp only [Act.put, List.setIfInBounds_toArray, List.set_cons_zero, List.set_cons_succ, i64_w, i32_w]; rfl
   refine take_ (i := 2) (N := some 32) (v := ?_) (a' := ?_) #[true, false, true, false, true, false, false, false, false, false, false, false] rfl rfl (take_ofW HT_.out HW_.out (by kernel_rfl)) (fun _ _ _ h => h) (Or.inl ⟨by rfl, ?_⟩) hHeld ?_ ?_
   rotate_left
   ·rintro w' ⟨s0, s1, s2, s3, s4, s5, s6, s7⟩
    go_simp
    with_reducible rfl
   rotate_left; · simp only [Act.put, List.setIfInBounds_toArray, List.set_cons_zero, List.set_cons_succ, i64_w, i32_w]; rfl
   refine join_ (σ := Value × Value × Value × Value × Nat) 2 #[true, true, true, true, true, true, true, true, true, true, false, false] (fun s_ => [(31, .agg #[s_.1, .int .i64 t353, .int .i64 t354, .int .i64 t355, .int .i64 t356, .int .i64 t357]), (33, .agg #[.int .i64 t358, s_.2.1]), (35, .tuple #[.agg #[s_.2.2.1, .int .i64 t365, .int .i64 t366, .int .i64 t367, .int .i64 t368, .int .i64 t369], s_.2.2.2.1]), (8, .pointer (some ⟨s_.2.2.2.2, 0, none⟩)), (29, .tuple #[.agg #[s_.2.2.1, .int .i64 t365, .int .i64 t366, .int .i64 t367, .int .i64 t368, .int .i64 t369], s_.2.2.2.1]), (36, .agg #[s_.2.2.1, .int .i64 t365, .int .i64 t366, .int .i64 t367, .int .i64 t368, .int .i64 t369]), (37, s_.2.2.2.1)]) (fun s_ w' => (w'.cell? ⟨gb346, 0, none⟩ = some (.slice A0_0 l0_0.length c0_0) ∧ w'.cell? ⟨gb346, 1, none⟩ = some (.int .i64 a0_1) ∧ w'.cell? ⟨gb346, 2, none⟩ = some (.int .i64 a0_2) ∧ w'.cell? ⟨gb346, 3, none⟩ = some (.int .i64 a0_3) ∧ w'.cell? ⟨gb346, 4, none⟩ = some (.int .i64 a0_4) ∧ w'.cell? ⟨gb346, 5, none⟩ = some (.int .i64 a0_5) ∧ w'.cell? ⟨gb347, 0, none⟩ = some (.int .i64 a1_0) ∧ w'.cell? ⟨gb347, 1, none⟩ = some (.slice A1_1 l1_1.length c1_1)) ∧ (Kd.R (Kd.int .i64) 3 w' w.heap.size (fun k_ => some k_ ≠ (s_.2.2.1 : Value).ownBlock ∧ some k_ ≠ (s_.2.2.2.1 : Value).ownBlock) s_.1 t350) ∧ (Kd.R k82 82 w' w.heap.size (fun _ => True) s_.2.1 t359) ∧ (Kd.R (Kd.int .i64) 3 w' w.heap.size (fun k_ => some k_ ≠ (s_.1 : Value).ownBlock ∧ some k_ ≠ (s_.2.2.2.1 : Value).ownBlock) s_.2.2.1 t362) ∧ (Kd.R (Kd.int .i64) 3 w' w.heap.size (fun k_ => some k_ ≠ (s_.1 : Value).ownBlock ∧ some k_ ≠ (s_.2.2.1 : Value).ownBlock) s_.2.2.2.1 t370) ∧ (w'.heap[gb346]? = some (.cells #[.slice A0_0 l0_0.length c0_0, .int .i64 a0_1, .int .i64 a0_2, .int .i64 a0_3, .int .i64 a0_4, .int .i64 a0_5] 88 (0, 0))) ∧ (w'.heap[gb347]? = some (.cells #[.int .i64 a1_0, .slice A1_1 l1_1.length c1_1] 37 (0, 0))) ∧ (w'.heap[s_.2.2.2.2]? = some (.cells #[.slice none 0 0, .int .i64 0, .int .i64 0, .int .i64 0, .int .i64 0, .int .i64 0] 90 (0, 0))) ∧ (w.heap.size ≤ s_.2.2.2.2) ∧ (w.heap.size ≤ s_.2.2.2.2) ∧ (gb346 ≠ s_.2.2.2.2) ∧ (s_.2.2.2.2 ≠ gb346) ∧ (gb347 ≠ s_.2.2.2.2) ∧ (s_.2.2.2.2 ≠ gb347) ∧ (Below w.heap.size w w')) ?_ ?_
   rotate_left
   ·intro hCont
    refine two_ (i := 1) (j := 9) (Ni := some 31) (Nj := some 8) #[true, true, true, false, true, false, false, false, false, false, false, false] #[true, false, true, false, true, false, false, false, false, true, false, false] rfl rfl rfl rfl (two_of HT_.out (by kernel_rfl)) (by decide) (by decide) (fun K hK => ?_) (fun K hK => ?_)
    ·skip
     refine goes_ Try.func58 (by kernel_rfl) rfl #[.agg #[.slice A0_0 l0_0.length c0_0, .int .i64 a0_1, .int .i64 a0_2, .int .i64 a0_3, .int .i64 a0_4, .int .i64 a0_5]] (by rfl) rfl rfl (by (try simp only [List.map_toArray, List.map_cons, List.map_nil]); first | done | rfl | (simp only [List.length_drop, List.length_take]; rfl)) ?_
     with_reducible refine (laws_toProber.calls k _ _ l0_0 a0_1 a0_2 a0_3 a0_4 a0_5 t350 t353 t354 t355 t356 t357 _ ?side1 ?side2 A16.out).mono ?_
     (case side1 => repeat (first | exact (Kd.C_below HR0_0.out HB.out) | (with_reducible refine Kd.C_alloc ?_ _) | (with_reducible refine Kd.C_drewN ?_ _) | (with_reducible refine Kd.C_drew ?_)))
     (case side2 => exact HC0_0.out)
     rintro e w24 ⟨v351, rfl, ho0, hb⟩
     refine ⟨_, rfl, ?_⟩
     have n_ := an (Kd.R_lower ho0 (below_size (by exact bel0))) (an (blk_below (blk_nw BK346.out) hb) (an (blk_below (blk_nw BK347.out) hb) (an (below_step (by exact bel0) hb) (trivial))))
     clear BK346 BK347 HB
     obtain ⟨HO352, BK346, BK347, HB, -⟩ := n_
     (try clear hb); (try clear hb2); (try clear hk); (try clear hi); (try clear ho0)
     refine hK.out _ _ ⟨(blk_cell BK346.out 0).trans rfl, (blk_cell BK346.out 1).trans rfl, (blk_cell BK346.out 2).trans rfl, (blk_cell BK346.out 3).trans rfl, (blk_cell BK346.out 4).trans rfl, (blk_cell BK346.out 5).trans rfl, (blk_cell BK347.out 0).trans rfl, (blk_cell BK347.out 1).trans rfl⟩ (fun hHeld => ?_)
     clear hK K
     refine norm_ (a' := ?_) ?_ ?_
     rotate_left
     ·show Act.put _ (some 31) _ = _
      simp only [Act.put, List.setIfInBounds_toArray, List.set_cons_zero, List.set_cons_succ, i64_w, i32_w]
      rfl
     refine two_ (i := 3) (j := 9) (Ni := some 33) (Nj := some 8) #[true, true, true, true, true, false, false, false, false, false, false, false] #[true, true, true, false, true, false, false, false, false, true, false, false] rfl rfl rfl rfl (two_of HT_.out (by kernel_rfl)) (by decide) (by decide) (fun K hK => ?_) (fun K hK => ?_)
     ·skip
      refine goes_ Try.func25 (by kernel_rfl) rfl #[.agg #[.int .i64 a1_0, .slice A1_1 l1_1.length c1_1]] (by rfl) rfl rfl (by (try simp only [List.map_toArray, List.map_cons, List.map_nil]); first | done | rfl | (simp only [List.length_drop, List.length_take]; rfl)) ?_
      with_reducible refine (laws_toTable.calls k a1_0 _ _ l1_1 t358 t359 _ ?side1 ?side2 A17.out).mono ?_
      (case side1 => repeat (first | exact (Kd.C_below HR1_1.out HB.out) | (with_reducible refine Kd.C_alloc ?_ _) | (with_reducible refine Kd.C_drewN ?_ _) | (with_reducible refine Kd.C_drew ?_)))
      (case side2 => exact HC1_1.out)
      rintro e w25 ⟨v360, rfl, ho0, hb⟩
      refine ⟨_, rfl, ?_⟩
      have n_ := an (Kd.R_below (by exact Kd.R_nw HO352.out) hb) (an (Kd.R_lower ho0 (below_size (by exact bel0))) (an (blk_below (blk_nw BK346.out) hb) (an (blk_below (blk_nw BK347.out) hb) (an (below_step (by exact bel0) hb) (trivial)))))
      clear HO352 BK346 BK347 HB
      obtain ⟨HO352, HO361, BK346, BK347, HB, -⟩ := n_
      (try clear hb); (try clear hb2); (try clear hk); (try clear hi); (try clear ho0)
      obtain ⟨Ao26, co26, eo26⟩ := Kd.R_slice HO352.out
      (first | subst eo26 | (injection eo26 with f1_ f2_ f3_; have f4_ := f1_.symm; have f5_ := f3_.symm; clear f1_ f2_ f3_; subst f4_; subst f5_))
      obtain ⟨Ao27, co27, eo27⟩ := Kd.R_slice HO361.out
      (first | subst eo27 | (injection eo27 with f1_ f2_ f3_; have f4_ := f1_.symm; have f5_ := f3_.symm; clear f1_ f2_ f3_; subst f4_; subst f5_))
      refine hK.out _ _ ⟨(blk_cell BK346.out 0).trans rfl, (blk_cell BK346.out 1).trans rfl, (blk_cell BK346.out 2).trans rfl, (blk_cell BK346.out 3).trans rfl, (blk_cell BK346.out 4).trans rfl, (blk_cell BK346.out 5).trans rfl, (blk_cell BK347.out 0).trans rfl, (blk_cell BK347.out 1).trans rfl⟩ (fun hHeld => ?_)
      clear hK K
      refine norm_ (a' := ?_) ?_ ?_
      rotate_left
      ·show Act.put _ (some 33) _ = _
       simp only [Act.put, List.setIfInBounds_toArray, List.set_cons_zero, List.set_cons_succ, i64_w, i32_w]
       rfl
      refine two_ (i := 5) (j := 9) (Ni := some 35) (Nj := some 8) #[true, true, true, true, true, true, false, false, false, false, false, false] #[true, true, true, true, true, false, false, false, false, true, false, false] rfl rfl rfl rfl (two_of HT_.out (by kernel_rfl)) (by decide) (by decide) (fun K hK => ?_) (fun K hK => ?_)
      ·skip
       refine goes_ Try.func57 (by kernel_rfl) rfl #[.agg #[.slice Ao26 t350.length co26, .int .i64 t353, .int .i64 t354, .int .i64 t355, .int .i64 t356, .int .i64 t357], .agg #[.int .i64 t358, .slice Ao27 t359.length co27], .int .i64 a2] (by rfl) rfl rfl (by (try simp only [List.map_toArray, List.map_cons, List.map_nil]); first | done | rfl | (simp only [List.length_drop, List.length_take]; rfl)) ?_
       with_reducible refine (spec_Helpers.calls k _ _ t350 t353 t354 t355 t356 t357 t358 _ _ t359 a2 t362 t365 t366 t367 t368 t369 t370 _ ?side1 ?side2 ?side3 ?side4 A18.out).mono ?_
       (case side1 => repeat (first | exact (Kd.R_reads' HO352.out).2.2 | (with_reducible refine Kd.C_alloc ?_ _) | (with_reducible refine Kd.C_drewN ?_ _) | (with_reducible refine Kd.C_drew ?_)))
       (case side2 => exact (Kd.R_reads' HO352.out).2.1)
       (case side3 => repeat (first | exact (Kd.R_reads' HO361.out).2.2 | (with_reducible refine Kd.C_alloc ?_ _) | (with_reducible refine Kd.C_drewN ?_ _) | (with_reducible refine Kd.C_drew ?_)))
       (case side4 => exact (Kd.R_reads' HO361.out).2.1)
       rintro e w28 ⟨v363, v371, rfl, ho0, ho1, hb⟩
       refine ⟨_, rfl, ?_⟩
       have n_ := an (Kd.R_mono (Kd.R_told (Kd.R_told (Kd.R_old (by exact Kd.R_nw HO352.out) hb) (Kd.R_base ho0)) (Kd.R_base ho1)) (fun _ h_ => h_.1)) (an (Kd.R_below (by exact Kd.R_nw HO361.out) hb) (an (Kd.R_lower (Kd.R_new' ho0 (Kd.R_lt (by exact Kd.R_nw HO352.out))) (below_size (by exact bel0))) (an (Kd.R_lower (Kd.R_new' ho1 (Kd.R_lt (by exact Kd.R_nw HO352.out))) (below_size (by exact bel0))) (an (blk_below (blk_nw BK346.out) hb) (an (blk_below (blk_nw BK347.out) hb) (an (below_step (by exact bel0) hb) (trivial)))))))
       clear HO352 HO361 BK346 BK347 HB
       obtain ⟨HO352, HO361, HO364, HO372, BK346, BK347, HB, -⟩ := n_
       (try clear hb); (try clear hb2); (try clear hk); (try clear hi); (try clear ho0); (try clear ho1)
       refine hK.out _ _ ⟨(blk_cell BK346.out 0).trans rfl, (blk_cell BK346.out 1).trans rfl, (blk_cell BK346.out 2).trans rfl, (blk_cell BK346.out 3).trans rfl, (blk_cell BK346.out 4).trans rfl, (blk_cell BK346.out 5).trans rfl, (blk_cell BK347.out 0).trans rfl, (blk_cell BK347.out 1).trans rfl⟩ (fun hHeld => ?_)
       clear hK K
       refine norm_ (a' := ?_) ?_ ?_
       rotate_left
       ·show Act.put _ (some 35) _ = _
        simp only [Act.put, List.setIfInBounds_toArray, List.set_cons_zero, List.set_cons_succ, i64_w, i32_w]
        rfl
       refine pure_ (i := 6) (N := some 29) (v := ?_) (a' := ?_) #[true, true, true, true, true, true, true, false, false, false, false, false] rfl rfl (any_of HT_.out (by kernel_rfl)) (fun _ _ _ h => h) (Or.inl ⟨by rfl, ?_⟩) ?_ ?_
       rotate_left; · intro w'; go_simp; with_reducible rfl
       rotate_left; · simp only [Act.put, List.setIfInBounds_toArray, List.set_cons_zero, List.set_cons_succ, i64_w, i32_w]; rfl
       refine pure_ (i := 7) (N := some 36) (v := ?_) (a' := ?_) #[true, true, true, true, true, true, true, true, false, false, false, false] rfl rfl (any_of HT_.out (by kernel_rfl)) (fun _ _ _ h => h) (Or.inl ⟨by rfl, ?_⟩) ?_ ?_
       rotate_left; · intro w'; go_simp; with_reducible rfl
       rotate_left; · simp only [Act.put, List.setIfInBounds_toArray, List.set_cons_zero, List.set_cons_succ, i64_w, i32_w]; rfl
       refine pure_ (i := 8) (N := some 37) (v := ?_) (a' := ?_) #[true, true, true, true, true, true, true, true, true, false, false, false] rfl rfl (any_of HT_.out (by kernel_rfl)) (fun _ _ _ h => h) (Or.inl ⟨by rfl, ?_⟩) ?_ ?_
       rotate_left; · intro w'; go_simp; with_reducible rfl
       rotate_left; · simp only [Act.put, List.setIfInBounds_toArray, List.set_cons_zero, List.set_cons_succ, i64_w, i32_w]; rfl
       refine one_ (i := 9) (N := some 8) #[true, true, true, true, true, true, true, true, true, true, false, false] rfl rfl (one_of HT_.out (by kernel_rfl)) (by decide) (fun K hK => ?_)
       refine box_step ?hg (N := 8) ?hd (cs := #[.slice none 0 0, .int .i64 0, .int .i64 0, .int .i64 0, .int .i64 0, .int .i64 0]) (t := 90) ?hr ?_; (case hd => rfl); (case hg => rfl); (case hr => first | (go_simp; done) | (go_simp; rfl))
       intro gb373 hg w29 hbox hb
       have n_ := an (Kd.R_below (by exact Kd.R_nw HO352.out) hb) (an (Kd.R_below (by exact Kd.R_nw HO361.out) hb) (an (Kd.R_below (by exact Kd.R_nw HO364.out) hb) (an (Kd.R_below (by exact Kd.R_nw HO372.out) hb) (an (blk_below (blk_nw BK346.out) hb) (an (blk_below (blk_nw BK347.out) hb) (an (below_step (by exact bel0) hb) (an (hbox) (an ((by rw [hg]; exact (below_size (by exact bel0)) : w.heap.size ≤ gb373)) (an ((by rw [hg]; exact (below_size (by exact bel0)) : w.heap.size ≤ gb373)) (an ((by rw [hg]; exact Nat.ne_of_lt (blk_lt (blk_nw BK346.out)) : gb346 ≠ gb373)) (an ((by rw [hg]; exact Nat.ne_of_gt (blk_lt (blk_nw BK346.out)) : gb373 ≠ gb346)) (an ((by rw [hg]; exact Nat.ne_of_lt (blk_lt (blk_nw BK347.out)) : gb347 ≠ gb373)) (an ((by rw [hg]; exact Nat.ne_of_gt (blk_lt (blk_nw BK347.out)) : gb373 ≠ gb347)) (trivial))))))))))))))
       clear HO352 HO361 HO364 HO372 BK346 BK347 HB
       obtain ⟨HO352, HO361, HO364, HO372, BK346, BK347, HB, BK373, GW373, GE373, NB346_373, NB373_346, NB347_373, NB373_347, -⟩ := n_
       clear hb hbox hg
       refine hK.out _ _ ⟨(blk_cell BK346.out 0).trans rfl, (blk_cell BK346.out 1).trans rfl, (blk_cell BK346.out 2).trans rfl, (blk_cell BK346.out 3).trans rfl, (blk_cell BK346.out 4).trans rfl, (blk_cell BK346.out 5).trans rfl, (blk_cell BK347.out 0).trans rfl, (blk_cell BK347.out 1).trans rfl⟩ (fun hHeld => ?_)
       clear hK K
       refine norm_ (a' := ?_) ?_ ?_
       rotate_left
       ·show Act.put _ (some 8) _ = _
        simp only [Act.put, List.setIfInBounds_toArray, List.set_cons_zero, List.set_cons_succ, i64_w, i32_w]
        rfl
       exact norm_ (by simp only [putAll, Act.put, List.setIfInBounds_toArray, List.set_cons_zero, List.set_cons_succ]) (hCont (.slice Ao26 t350.length co26, .slice Ao27 t359.length co27, v363, v371, gb373) _ ⟨hHeld, (by exact Kd.R_nw (Kd.R_mono HO352.out (fun _ hk => ⟨hk.1.2, hk.2⟩))), (by exact Kd.R_nw HO361.out), (by exact Kd.R_nw (Kd.R_mono HO364.out (fun _ hk => ⟨hk.2, hk.1⟩))), (by exact Kd.R_nw (Kd.R_mono HO372.out (fun _ hk => ⟨hk.2, hk.1⟩))), (by exact blk_nw BK346.out), (by exact blk_nw BK347.out), (by exact blk_nw BK373.out), GW373.out, GE373.out, NB346_373.out, NB373_346.out, NB347_373.out, NB373_347.out, (by exact bel0)⟩)
      ·skip
       refine box_step ?hg (N := 8) ?hd (cs := #[.slice none 0 0, .int .i64 0, .int .i64 0, .int .i64 0, .int .i64 0, .int .i64 0]) (t := 90) ?hr ?_; (case hd => rfl); (case hg => rfl); (case hr => first | (go_simp; done) | (go_simp; rfl))
       intro gb373 hg w26 hbox hb
       have n_ := an (Kd.R_below (by exact Kd.R_nw HO352.out) hb) (an (Kd.R_below (by exact Kd.R_nw HO361.out) hb) (an (blk_below (blk_nw BK346.out) hb) (an (blk_below (blk_nw BK347.out) hb) (an (below_step (by exact bel0) hb) (an (hbox) (an ((by rw [hg]; exact (below_size (by exact bel0)) : w.heap.size ≤ gb373)) (an ((by rw [hg]; exact (below_size (by exact bel0)) : w.heap.size ≤ gb373)) (an ((by rw [hg]; exact Nat.ne_of_lt (blk_lt (blk_nw BK346.out)) : gb346 ≠ gb373)) (an ((by rw [hg]; exact Nat.ne_of_gt (blk_lt (blk_nw BK346.out)) : gb373 ≠ gb346)) (an ((by rw [hg]; exact Nat.ne_of_lt (blk_lt (blk_nw BK347.out)) : gb347 ≠ gb373)) (an ((by rw [hg]; exact Nat.ne_of_gt (blk_lt (blk_nw BK347.out)) : gb373 ≠ gb347)) (trivial))))))))))))
       clear HO352 HO361 BK346 BK347 HB
       obtain ⟨HO352, HO361, BK346, BK347, HB, BK373, GW373, GE373, NB346_373, NB373_346, NB347_373, NB373_347, -⟩ := n_
       clear hb hbox hg
       obtain ⟨Ao27, co27, eo27⟩ := Kd.R_slice HO352.out
       (first | subst eo27 | (injection eo27 with f1_ f2_ f3_; have f4_ := f1_.symm; have f5_ := f3_.symm; clear f1_ f2_ f3_; subst f4_; subst f5_))
       obtain ⟨Ao28, co28, eo28⟩ := Kd.R_slice HO361.out
       (first | subst eo28 | (injection eo28 with f1_ f2_ f3_; have f4_ := f1_.symm; have f5_ := f3_.symm; clear f1_ f2_ f3_; subst f4_; subst f5_))
       refine hK.out _ _ ⟨(blk_cell BK346.out 0).trans rfl, (blk_cell BK346.out 1).trans rfl, (blk_cell BK346.out 2).trans rfl, (blk_cell BK346.out 3).trans rfl, (blk_cell BK346.out 4).trans rfl, (blk_cell BK346.out 5).trans rfl, (blk_cell BK347.out 0).trans rfl, (blk_cell BK347.out 1).trans rfl⟩ (fun hHeld => ?_)
       clear hK K
       refine norm_ (a' := ?_) ?_ ?_
       rotate_left
       ·show Act.put _ (some 8) _ = _
        simp only [Act.put, List.setIfInBounds_toArray, List.set_cons_zero, List.set_cons_succ, i64_w, i32_w]
        rfl
       refine one_ (i := 5) (N := some 35) #[true, true, true, true, true, true, false, false, false, true, false, false] rfl rfl (one_of HT_.out (by kernel_rfl)) (by decide) (fun K hK => ?_)
       refine goes_ Try.func57 (by kernel_rfl) rfl #[.agg #[.slice Ao27 t350.length co27, .int .i64 t353, .int .i64 t354, .int .i64 t355, .int .i64 t356, .int .i64 t357], .agg #[.int .i64 t358, .slice Ao28 t359.length co28], .int .i64 a2] (by rfl) rfl rfl (by (try simp only [List.map_toArray, List.map_cons, List.map_nil]); first | done | rfl | (simp only [List.length_drop, List.length_take]; rfl)) ?_
       with_reducible refine (spec_Helpers.calls k _ _ t350 t353 t354 t355 t356 t357 t358 _ _ t359 a2 t362 t365 t366 t367 t368 t369 t370 _ ?side1 ?side2 ?side3 ?side4 A18.out).mono ?_
       (case side1 => repeat (first | exact (Kd.R_reads' HO352.out).2.2 | (with_reducible refine Kd.C_alloc ?_ _) | (with_reducible refine Kd.C_drewN ?_ _) | (with_reducible refine Kd.C_drew ?_)))
       (case side2 => exact (Kd.R_reads' HO352.out).2.1)
       (case side3 => repeat (first | exact (Kd.R_reads' HO361.out).2.2 | (with_reducible refine Kd.C_alloc ?_ _) | (with_reducible refine Kd.C_drewN ?_ _) | (with_reducible refine Kd.C_drew ?_)))
       (case side4 => exact (Kd.R_reads' HO361.out).2.1)
       rintro e w29 ⟨v363, v371, rfl, ho0, ho1, hb⟩
       refine ⟨_, rfl, ?_⟩
       have n_ := an (Kd.R_mono (Kd.R_told (Kd.R_told (Kd.R_old (by exact Kd.R_nw HO352.out) hb) (Kd.R_base ho0)) (Kd.R_base ho1)) (fun _ h_ => h_.1)) (an (Kd.R_below (by exact Kd.R_nw HO361.out) hb) (an (Kd.R_lower (Kd.R_new' ho0 (Kd.R_lt (by exact Kd.R_nw HO352.out))) (below_size (by exact bel0))) (an (Kd.R_lower (Kd.R_new' ho1 (Kd.R_lt (by exact Kd.R_nw HO352.out))) (below_size (by exact bel0))) (an (blk_below (blk_nw BK346.out) hb) (an (blk_below (blk_nw BK347.out) hb) (an (blk_below (blk_nw BK373.out) hb) (an (below_step (by exact bel0) hb) (trivial))))))))
       clear HO352 HO361 BK346 BK347 BK373 HB
       obtain ⟨HO352, HO361, HO364, HO372, BK346, BK347, BK373, HB, -⟩ := n_
       (try clear hb); (try clear hb2); (try clear hk); (try clear hi); (try clear ho0); (try clear ho1)
       refine hK.out _ _ ⟨(blk_cell BK346.out 0).trans rfl, (blk_cell BK346.out 1).trans rfl, (blk_cell BK346.out 2).trans rfl, (blk_cell BK346.out 3).trans rfl, (blk_cell BK346.out 4).trans rfl, (blk_cell BK346.out 5).trans rfl, (blk_cell BK347.out 0).trans rfl, (blk_cell BK347.out 1).trans rfl⟩ (fun hHeld => ?_)
       clear hK K
       refine norm_ (a' := ?_) ?_ ?_
       rotate_left
       ·show Act.put _ (some 35) _ = _
        simp only [Act.put, List.setIfInBounds_toArray, List.set_cons_zero, List.set_cons_succ, i64_w, i32_w]
        rfl
       refine pure_ (i := 6) (N := some 29) (v := ?_) (a' := ?_) #[true, true, true, true, true, true, true, false, false, true, false, false] rfl rfl (any_of HT_.out (by kernel_rfl)) (fun _ _ _ h => h) (Or.inl ⟨by rfl, ?_⟩) ?_ ?_
       rotate_left; · intro w'; go_simp; with_reducible rfl
       rotate_left; · simp only [Act.put, List.setIfInBounds_toArray, List.set_cons_zero, List.set_cons_succ, i64_w, i32_w]; rfl
       refine pure_ (i := 7) (N := some 36) (v := ?_) (a' := ?_) #[true, true, true, true, true, true, true, true, false, true, false, false] rfl rfl (any_of HT_.out (by kernel_rfl)) (fun _ _ _ h => h) (Or.inl ⟨by rfl, ?_⟩) ?_ ?_
       rotate_left; · intro w'; go_simp; with_reducible rfl
       rotate_left; · simp only [Act.put, List.setIfInBounds_toArray, List.set_cons_zero, List.set_cons_succ, i64_w, i32_w]; rfl
       refine pure_ (i := 8) (N := some 37) (v := ?_) (a' := ?_) #[true, true, true, true, true, true, true, true, true, true, false, false] rfl rfl (any_of HT_.out (by kernel_rfl)) (fun _ _ _ h => h) (Or.inl ⟨by rfl, ?_⟩) ?_ ?_
       rotate_left; · intro w'; go_simp; with_reducible rfl
       rotate_left; · simp only [Act.put, List.setIfInBounds_toArray, List.set_cons_zero, List.set_cons_succ, i64_w, i32_w]; rfl
       exact norm_ (by simp only [putAll, Act.put, List.setIfInBounds_toArray, List.set_cons_zero, List.set_cons_succ]) (hCont (.slice Ao27 t350.length co27, .slice Ao28 t359.length co28, v363, v371, gb373) _ ⟨hHeld, (by exact Kd.R_nw (Kd.R_mono HO352.out (fun _ hk => ⟨hk.1.2, hk.2⟩))), (by exact Kd.R_nw HO361.out), (by exact Kd.R_nw (Kd.R_mono HO364.out (fun _ hk => ⟨hk.2, hk.1⟩))), (by exact Kd.R_nw (Kd.R_mono HO372.out (fun _ hk => ⟨hk.2, hk.1⟩))), (by exact blk_nw BK346.out), (by exact blk_nw BK347.out), (by exact blk_nw BK373.out), GW373.out, GE373.out, NB346_373.out, NB373_346.out, NB347_373.out, NB373_347.out, (by exact bel0)⟩)
     ·skip
      refine box_step ?hg (N := 8) ?hd (cs := #[.slice none 0 0, .int .i64 0, .int .i64 0, .int .i64 0, .int .i64 0, .int .i64 0]) (t := 90) ?hr ?_; (case hd => rfl); (case hg => rfl); (case hr => first | (go_simp; done) | (go_simp; rfl))
      intro gb373 hg w25 hbox hb
      have n_ := an (Kd.R_below (by exact Kd.R_nw HO352.out) hb) (an (blk_below (blk_nw BK346.out) hb) (an (blk_below (blk_nw BK347.out) hb) (an (below_step (by exact bel0) hb) (an (hbox) (an ((by rw [hg]; exact (below_size (by exact bel0)) : w.heap.size ≤ gb373)) (an ((by rw [hg]; exact (below_size (by exact bel0)) : w.heap.size ≤ gb373)) (an ((by rw [hg]; exact Nat.ne_of_lt (blk_lt (blk_nw BK346.out)) : gb346 ≠ gb373)) (an ((by rw [hg]; exact Nat.ne_of_gt (blk_lt (blk_nw BK346.out)) : gb373 ≠ gb346)) (an ((by rw [hg]; exact Nat.ne_of_lt (blk_lt (blk_nw BK347.out)) : gb347 ≠ gb373)) (an ((by rw [hg]; exact Nat.ne_of_gt (blk_lt (blk_nw BK347.out)) : gb373 ≠ gb347)) (trivial)))))))))))
      clear HO352 BK346 BK347 HB
      obtain ⟨HO352, BK346, BK347, HB, BK373, GW373, GE373, NB346_373, NB373_346, NB347_373, NB373_347, -⟩ := n_
      clear hb hbox hg
      refine hK.out _ _ ⟨(blk_cell BK346.out 0).trans rfl, (blk_cell BK346.out 1).trans rfl, (blk_cell BK346.out 2).trans rfl, (blk_cell BK346.out 3).trans rfl, (blk_cell BK346.out 4).trans rfl, (blk_cell BK346.out 5).trans rfl, (blk_cell BK347.out 0).trans rfl, (blk_cell BK347.out 1).trans rfl⟩ (fun hHeld => ?_)
      clear hK K
      refine norm_ (a' := ?_) ?_ ?_
      rotate_left
      ·show Act.put _ (some 8) _ = _
       simp only [Act.put, List.setIfInBounds_toArray, List.set_cons_zero, List.set_cons_succ, i64_w, i32_w]
       rfl
      refine one_ (i := 3) (N := some 33) #[true, true, true, true, true, false, false, false, false, true, false, false] rfl rfl (one_of HT_.out (by kernel_rfl)) (by decide) (fun K hK => ?_)
      refine goes_ Try.func25 (by kernel_rfl) rfl #[.agg #[.int .i64 a1_0, .slice A1_1 l1_1.length c1_1]] (by rfl) rfl rfl (by (try simp only [List.map_toArray, List.map_cons, List.map_nil]); first | done | rfl | (simp only [List.length_drop, List.length_take]; rfl)) ?_
      with_reducible refine (laws_toTable.calls k a1_0 _ _ l1_1 t358 t359 _ ?side1 ?side2 A17.out).mono ?_
      (case side1 => repeat (first | exact (Kd.C_below HR1_1.out HB.out) | (with_reducible refine Kd.C_alloc ?_ _) | (with_reducible refine Kd.C_drewN ?_ _) | (with_reducible refine Kd.C_drew ?_)))
      (case side2 => exact HC1_1.out)
      rintro e w26 ⟨v360, rfl, ho0, hb⟩
      refine ⟨_, rfl, ?_⟩
      have n_ := an (Kd.R_below (by exact Kd.R_nw HO352.out) hb) (an (Kd.R_lower ho0 (below_size (by exact bel0))) (an (blk_below (blk_nw BK346.out) hb) (an (blk_below (blk_nw BK347.out) hb) (an (blk_below (blk_nw BK373.out) hb) (an (below_step (by exact bel0) hb) (trivial))))))
      clear HO352 BK346 BK347 BK373 HB
      obtain ⟨HO352, HO361, BK346, BK347, BK373, HB, -⟩ := n_
      (try clear hb); (try clear hb2); (try clear hk); (try clear hi); (try clear ho0)
      obtain ⟨Ao27, co27, eo27⟩ := Kd.R_slice HO352.out
      (first | subst eo27 | (injection eo27 with f1_ f2_ f3_; have f4_ := f1_.symm; have f5_ := f3_.symm; clear f1_ f2_ f3_; subst f4_; subst f5_))
      obtain ⟨Ao28, co28, eo28⟩ := Kd.R_slice HO361.out
      (first | subst eo28 | (injection eo28 with f1_ f2_ f3_; have f4_ := f1_.symm; have f5_ := f3_.symm; clear f1_ f2_ f3_; subst f4_; subst f5_))
      refine hK.out _ _ ⟨(blk_cell BK346.out 0).trans rfl, (blk_cell BK346.out 1).trans rfl, (blk_cell BK346.out 2).trans rfl, (blk_cell BK346.out 3).trans rfl, (blk_cell BK346.out 4).trans rfl, (blk_cell BK346.out 5).trans rfl, (blk_cell BK347.out 0).trans rfl, (blk_cell BK347.out 1).trans rfl⟩ (fun hHeld => ?_)
      clear hK K
      refine norm_ (a' := ?_) ?_ ?_
      rotate_left
      ·show Act.put _ (some 33) _ = _
       simp only [Act.put, List.setIfInBounds_toArray, List.set_cons_zero, List.set_cons_succ, i64_w, i32_w]
       rfl
      refine one_ (i := 5) (N := some 35) #[true, true, true, true, true, true, false, false, false, true, false, false] rfl rfl (one_of HT_.out (by kernel_rfl)) (by decide) (fun K hK => ?_)
      refine goes_ Try.func57 (by kernel_rfl) rfl #[.agg #[.slice Ao27 t350.length co27, .int .i64 t353, .int .i64 t354, .int .i64 t355, .int .i64 t356, .int .i64 t357], .agg #[.int .i64 t358, .slice Ao28 t359.length co28], .int .i64 a2] (by rfl) rfl rfl (by (try simp only [List.map_toArray, List.map_cons, List.map_nil]); first | done | rfl | (simp only [List.length_drop, List.length_take]; rfl)) ?_
      with_reducible refine (spec_Helpers.calls k _ _ t350 t353 t354 t355 t356 t357 t358 _ _ t359 a2 t362 t365 t366 t367 t368 t369 t370 _ ?side1 ?side2 ?side3 ?side4 A18.out).mono ?_
      (case side1 => repeat (first | exact (Kd.R_reads' HO352.out).2.2 | (with_reducible refine Kd.C_alloc ?_ _) | (with_reducible refine Kd.C_drewN ?_ _) | (with_reducible refine Kd.C_drew ?_)))
      (case side2 => exact (Kd.R_reads' HO352.out).2.1)
      (case side3 => repeat (first | exact (Kd.R_reads' HO361.out).2.2 | (with_reducible refine Kd.C_alloc ?_ _) | (with_reducible refine Kd.C_drewN ?_ _) | (with_reducible refine Kd.C_drew ?_)))
      (case side4 => exact (Kd.R_reads' HO361.out).2.1)
      rintro e w29 ⟨v363, v371, rfl, ho0, ho1, hb⟩
      refine ⟨_, rfl, ?_⟩
      have n_ := an (Kd.R_mono (Kd.R_told (Kd.R_told (Kd.R_old (by exact Kd.R_nw HO352.out) hb) (Kd.R_base ho0)) (Kd.R_base ho1)) (fun _ h_ => h_.1)) (an (Kd.R_below (by exact Kd.R_nw HO361.out) hb) (an (Kd.R_lower (Kd.R_new' ho0 (Kd.R_lt (by exact Kd.R_nw HO352.out))) (below_size (by exact bel0))) (an (Kd.R_lower (Kd.R_new' ho1 (Kd.R_lt (by exact Kd.R_nw HO352.out))) (below_size (by exact bel0))) (an (blk_below (blk_nw BK346.out) hb) (an (blk_below (blk_nw BK347.out) hb) (an (blk_below (blk_nw BK373.out) hb) (an (below_step (by exact bel0) hb) (trivial))))))))
      clear HO352 HO361 BK346 BK347 BK373 HB
      obtain ⟨HO352, HO361, HO364, HO372, BK346, BK347, BK373, HB, -⟩ := n_
      (try clear hb); (try clear hb2); (try clear hk); (try clear hi); (try clear ho0); (try clear ho1)
      refine hK.out _ _ ⟨(blk_cell BK346.out 0).trans rfl, (blk_cell BK346.out 1).trans rfl, (blk_cell BK346.out 2).trans rfl, (blk_cell BK346.out 3).trans rfl, (blk_cell BK346.out 4).trans rfl, (blk_cell BK346.out 5).trans rfl, (blk_cell BK347.out 0).trans rfl, (blk_cell BK347.out 1).trans rfl⟩ (fun hHeld => ?_)
      clear hK K
      refine norm_ (a' := ?_) ?_ ?_
      rotate_left
      ·show Act.put _ (some 35) _ = _
       simp only [Act.put, List.setIfInBounds_toArray, List.set_cons_zero, List.set_cons_succ, i64_w, i32_w]
       rfl
      refine pure_ (i := 6) (N := some 29) (v := ?_) (a' := ?_) #[true, true, true, true, true, true, true, false, false, true, false, false] rfl rfl (any_of HT_.out (by kernel_rfl)) (fun _ _ _ h => h) (Or.inl ⟨by rfl, ?_⟩) ?_ ?_
      rotate_left; · intro w'; go_simp; with_reducible rfl
      rotate_left; · simp only [Act.put, List.setIfInBounds_toArray, List.set_cons_zero, List.set_cons_succ, i64_w, i32_w]; rfl
      refine pure_ (i := 7) (N := some 36) (v := ?_) (a' := ?_) #[true, true, true, true, true, true, true, true, false, true, false, false] rfl rfl (any_of HT_.out (by kernel_rfl)) (fun _ _ _ h => h) (Or.inl ⟨by rfl, ?_⟩) ?_ ?_
      rotate_left; · intro w'; go_simp; with_reducible rfl
      rotate_left; · simp only [Act.put, List.setIfInBounds_toArray, List.set_cons_zero, List.set_cons_succ, i64_w, i32_w]; rfl
      refine pure_ (i := 8) (N := some 37) (v := ?_) (a' := ?_) #[true, true, true, true, true, true, true, true, true, true, false, false] rfl rfl (any_of HT_.out (by kernel_rfl)) (fun _ _ _ h => h) (Or.inl ⟨by rfl, ?_⟩) ?_ ?_
      rotate_left; · intro w'; go_simp; with_reducible rfl
      rotate_left; · simp only [Act.put, List.setIfInBounds_toArray, List.set_cons_zero, List.set_cons_succ, i64_w, i32_w]; rfl
      exact norm_ (by simp only [putAll, Act.put, List.setIfInBounds_toArray, List.set_cons_zero, List.set_cons_succ]) (hCont (.slice Ao27 t350.length co27, .slice Ao28 t359.length co28, v363, v371, gb373) _ ⟨hHeld, (by exact Kd.R_nw (Kd.R_mono HO352.out (fun _ hk => ⟨hk.1.2, hk.2⟩))), (by exact Kd.R_nw HO361.out), (by exact Kd.R_nw (Kd.R_mono HO364.out (fun _ hk => ⟨hk.2, hk.1⟩))), (by exact Kd.R_nw (Kd.R_mono HO372.out (fun _ hk => ⟨hk.2, hk.1⟩))), (by exact blk_nw BK346.out), (by exact blk_nw BK347.out), (by exact blk_nw BK373.out), GW373.out, GE373.out, NB346_373.out, NB373_346.out, NB347_373.out, NB373_347.out, (by exact bel0)⟩)
    ·skip
     refine box_step ?hg (N := 8) ?hd (cs := #[.slice none 0 0, .int .i64 0, .int .i64 0, .int .i64 0, .int .i64 0, .int .i64 0]) (t := 90) ?hr ?_; (case hd => rfl); (case hg => rfl); (case hr => first | (go_simp; done) | (go_simp; rfl))
     intro gb373 hg w24 hbox hb
     have n_ := an (blk_below (blk_nw BK346.out) hb) (an (blk_below (blk_nw BK347.out) hb) (an (below_step (by exact bel0) hb) (an (hbox) (an ((by rw [hg]; exact (below_size (by exact bel0)) : w.heap.size ≤ gb373)) (an ((by rw [hg]; exact (below_size (by exact bel0)) : w.heap.size ≤ gb373)) (an ((by rw [hg]; exact Nat.ne_of_lt (blk_lt (blk_nw BK346.out)) : gb346 ≠ gb373)) (an ((by rw [hg]; exact Nat.ne_of_gt (blk_lt (blk_nw BK346.out)) : gb373 ≠ gb346)) (an ((by rw [hg]; exact Nat.ne_of_lt (blk_lt (blk_nw BK347.out)) : gb347 ≠ gb373)) (an ((by rw [hg]; exact Nat.ne_of_gt (blk_lt (blk_nw BK347.out)) : gb373 ≠ gb347)) (trivial))))))))))
     clear BK346 BK347 HB
     obtain ⟨BK346, BK347, HB, BK373, GW373, GE373, NB346_373, NB373_346, NB347_373, NB373_347, -⟩ := n_
     clear hb hbox hg
     refine hK.out _ _ ⟨(blk_cell BK346.out 0).trans rfl, (blk_cell BK346.out 1).trans rfl, (blk_cell BK346.out 2).trans rfl, (blk_cell BK346.out 3).trans rfl, (blk_cell BK346.out 4).trans rfl, (blk_cell BK346.out 5).trans rfl, (blk_cell BK347.out 0).trans rfl, (blk_cell BK347.out 1).trans rfl⟩ (fun hHeld => ?_)
     clear hK K
     refine norm_ (a' := ?_) ?_ ?_
     rotate_left
     ·show Act.put _ (some 8) _ = _
      simp only [Act.put, List.setIfInBounds_toArray, List.set_cons_zero, List.set_cons_succ, i64_w, i32_w]
      rfl
     refine one_ (i := 1) (N := some 31) #[true, true, true, false, true, false, false, false, false, true, false, false] rfl rfl (one_of HT_.out (by kernel_rfl)) (by decide) (fun K hK => ?_)
     refine goes_ Try.func58 (by kernel_rfl) rfl #[.agg #[.slice A0_0 l0_0.length c0_0, .int .i64 a0_1, .int .i64 a0_2, .int .i64 a0_3, .int .i64 a0_4, .int .i64 a0_5]] (by rfl) rfl rfl (by (try simp only [List.map_toArray, List.map_cons, List.map_nil]); first | done | rfl | (simp only [List.length_drop, List.length_take]; rfl)) ?_
     with_reducible refine (laws_toProber.calls k _ _ l0_0 a0_1 a0_2 a0_3 a0_4 a0_5 t350 t353 t354 t355 t356 t357 _ ?side1 ?side2 A16.out).mono ?_
     (case side1 => repeat (first | exact (Kd.C_below HR0_0.out HB.out) | (with_reducible refine Kd.C_alloc ?_ _) | (with_reducible refine Kd.C_drewN ?_ _) | (with_reducible refine Kd.C_drew ?_)))
     (case side2 => exact HC0_0.out)
     rintro e w25 ⟨v351, rfl, ho0, hb⟩
     refine ⟨_, rfl, ?_⟩
     have n_ := an (Kd.R_lower ho0 (below_size (by exact bel0))) (an (blk_below (blk_nw BK346.out) hb) (an (blk_below (blk_nw BK347.out) hb) (an (blk_below (blk_nw BK373.out) hb) (an (below_step (by exact bel0) hb) (trivial)))))
     clear BK346 BK347 BK373 HB
     obtain ⟨HO352, BK346, BK347, BK373, HB, -⟩ := n_
     (try clear hb); (try clear hb2); (try clear hk); (try clear hi); (try clear ho0)
     refine hK.out _ _ ⟨(blk_cell BK346.out 0).trans rfl, (blk_cell BK346.out 1).trans rfl, (blk_cell BK346.out 2).trans rfl, (blk_cell BK346.out 3).trans rfl, (blk_cell BK346.out 4).trans rfl, (blk_cell BK346.out 5).trans rfl, (blk_cell BK347.out 0).trans rfl, (blk_cell BK347.out 1).trans rfl⟩ (fun hHeld => ?_)
     clear hK K
     refine norm_ (a' := ?_) ?_ ?_
     rotate_left
     ·show Act.put _ (some 31) _ = _
      simp only [Act.put, List.setIfInBounds_toArray, List.set_cons_zero, List.set_cons_succ, i64_w, i32_w]
      rfl
     refine one_ (i := 3) (N := some 33) #[true, true, true, true, true, false, false, false, false, true, false, false] rfl rfl (one_of HT_.out (by kernel_rfl)) (by decide) (fun K hK => ?_)
     refine goes_ Try.func25 (by kernel_rfl) rfl #[.agg #[.int .i64 a1_0, .slice A1_1 l1_1.length c1_1]] (by rfl) rfl rfl (by (try simp only [List.map_toArray, List.map_cons, List.map_nil]); first | done | rfl | (simp only [List.length_drop, List.length_take]; rfl)) ?_
     with_reducible refine (laws_toTable.calls k a1_0 _ _ l1_1 t358 t359 _ ?side1 ?side2 A17.out).mono ?_
     (case side1 => repeat (first | exact (Kd.C_below HR1_1.out HB.out) | (with_reducible refine Kd.C_alloc ?_ _) | (with_reducible refine Kd.C_drewN ?_ _) | (with_reducible refine Kd.C_drew ?_)))
     (case side2 => exact HC1_1.out)
     rintro e w26 ⟨v360, rfl, ho0, hb⟩
     refine ⟨_, rfl, ?_⟩
     have n_ := an (Kd.R_below (by exact Kd.R_nw HO352.out) hb) (an (Kd.R_lower ho0 (below_size (by exact bel0))) (an (blk_below (blk_nw BK346.out) hb) (an (blk_below (blk_nw BK347.out) hb) (an (blk_below (blk_nw BK373.out) hb) (an (below_step (by exact bel0) hb) (trivial))))))
     clear HO352 BK346 BK347 BK373 HB
     obtain ⟨HO352, HO361, BK346, BK347, BK373, HB, -⟩ := n_
     (try clear hb); (try clear hb2); (try clear hk); (try clear hi); (try clear ho0)
     obtain ⟨Ao27, co27, eo27⟩ := Kd.R_slice HO352.out
     (first | subst eo27 | (injection eo27 with f1_ f2_ f3_; have f4_ := f1_.symm; have f5_ := f3_.symm; clear f1_ f2_ f3_; subst f4_; subst f5_))
     obtain ⟨Ao28, co28, eo28⟩ := Kd.R_slice HO361.out
     (first | subst eo28 | (injection eo28 with f1_ f2_ f3_; have f4_ := f1_.symm; have f5_ := f3_.symm; clear f1_ f2_ f3_; subst f4_; subst f5_))
     refine hK.out _ _ ⟨(blk_cell BK346.out 0).trans rfl, (blk_cell BK346.out 1).trans rfl, (blk_cell BK346.out 2).trans rfl, (blk_cell BK346.out 3).trans rfl, (blk_cell BK346.out 4).trans rfl, (blk_cell BK346.out 5).trans rfl, (blk_cell BK347.out 0).trans rfl, (blk_cell BK347.out 1).trans rfl⟩ (fun hHeld => ?_)
     clear hK K
     refine norm_ (a' := ?_) ?_ ?_
     rotate_left
     ·show Act.put _ (some 33) _ = _
      simp only [Act.put, List.setIfInBounds_toArray, List.set_cons_zero, List.set_cons_succ, i64_w, i32_w]
      rfl
     refine one_ (i := 5) (N := some 35) #[true, true, true, true, true, true, false, false, false, true, false, false] rfl rfl (one_of HT_.out (by kernel_rfl)) (by decide) (fun K hK => ?_)
     refine goes_ Try.func57 (by kernel_rfl) rfl #[.agg #[.slice Ao27 t350.length co27, .int .i64 t353, .int .i64 t354, .int .i64 t355, .int .i64 t356, .int .i64 t357], .agg #[.int .i64 t358, .slice Ao28 t359.length co28], .int .i64 a2] (by rfl) rfl rfl (by (try simp only [List.map_toArray, List.map_cons, List.map_nil]); first | done | rfl | (simp only [List.length_drop, List.length_take]; rfl)) ?_
     with_reducible refine (spec_Helpers.calls k _ _ t350 t353 t354 t355 t356 t357 t358 _ _ t359 a2 t362 t365 t366 t367 t368 t369 t370 _ ?side1 ?side2 ?side3 ?side4 A18.out).mono ?_
     (case side1 => repeat (first | exact (Kd.R_reads' HO352.out).2.2 | (with_reducible refine Kd.C_alloc ?_ _) | (with_reducible refine Kd.C_drewN ?_ _) | (with_reducible refine Kd.C_drew ?_)))
     (case side2 => exact (Kd.R_reads' HO352.out).2.1)
     (case side3 => repeat (first | exact (Kd.R_reads' HO361.out).2.2 | (with_reducible refine Kd.C_alloc ?_ _) | (with_reducible refine Kd.C_drewN ?_ _) | (with_reducible refine Kd.C_drew ?_)))
     (case side4 => exact (Kd.R_reads' HO361.out).2.1)
     rintro e w29 ⟨v363, v371, rfl, ho0, ho1, hb⟩
     refine ⟨_, rfl, ?_⟩
     have n_ := an (Kd.R_mono (Kd.R_told (Kd.R_told (Kd.R_old (by exact Kd.R_nw HO352.out) hb) (Kd.R_base ho0)) (Kd.R_base ho1)) (fun _ h_ => h_.1)) (an (Kd.R_below (by exact Kd.R_nw HO361.out) hb) (an (Kd.R_lower (Kd.R_new' ho0 (Kd.R_lt (by exact Kd.R_nw HO352.out))) (below_size (by exact bel0))) (an (Kd.R_lower (Kd.R_new' ho1 (Kd.R_lt (by exact Kd.R_nw HO352.out))) (below_size (by exact bel0))) (an (blk_below (blk_nw BK346.out) hb) (an (blk_below (blk_nw BK347.out) hb) (an (blk_below (blk_nw BK373.out) hb) (an (below_step (by exact bel0) hb) (trivial))))))))
     clear HO352 HO361 BK346 BK347 BK373 HB
     obtain ⟨HO352, HO361, HO364, HO372, BK346, BK347, BK373, HB, -⟩ := n_
     (try clear hb); (try clear hb2); (try clear hk); (try clear hi); (try clear ho0); (try clear ho1)
     refine hK.out _ _ ⟨(blk_cell BK346.out 0).trans rfl, (blk_cell BK346.out 1).trans rfl, (blk_cell BK346.out 2).trans rfl, (blk_cell BK346.out 3).trans rfl, (blk_cell BK346.out 4).trans rfl, (blk_cell BK346.out 5).trans rfl, (blk_cell BK347.out 0).trans rfl, (blk_cell BK347.out 1).trans rfl⟩ (fun hHeld => ?_)
     clear hK K
     refine norm_ (a' := ?_) ?_ ?_
     rotate_left
     ·show Act.put _ (some 35) _ = _
      simp only [Act.put, List.setIfInBounds_toArray, List.set_cons_zero, List.set_cons_succ, i64_w, i32_w]
      rfl
     refine pure_ (i := 6) (N := some 29) (v := ?_) (a' := ?_) #[true, true, true, true, true, true, true, false, false, true, false, false] rfl rfl (any_of HT_.out (by kernel_rfl)) (fun _ _ _ h => h) (Or.inl ⟨by rfl, ?_⟩) ?_ ?_
     rotate_left; · intro w'; go_simp; with_reducible rfl
     rotate_left; · simp only [Act.put, List.setIfInBounds_toArray, List.set_cons_zero, List.set_cons_succ, i64_w, i32_w]; rfl
     refine pure_ (i := 7) (N := some 36) (v := ?_) (a' := ?_) #[true, true, true, true, true, true, true, true, false, true, false, false] rfl rfl (any_of HT_.out (by kernel_rfl)) (fun _ _ _ h => h) (Or.inl ⟨by rfl, ?_⟩) ?_ ?_
     rotate_left; · intro w'; go_simp; with_reducible rfl
     rotate_left; · simp only [Act.put, List.setIfInBounds_toArray, List.set_cons_zero, List.set_cons_succ, i64_w, i32_w]; rfl
     refine pure_ (i := 8) (N := some 37) (v := ?_) (a' := ?_) #[true, true, true, true, true, true, true, true, true, true, false, false] rfl rfl (any_of HT_.out (by kernel_rfl)) (fun _ _ _ h => h) (Or.inl ⟨by rfl, ?_⟩) ?_ ?_
     rotate_left; · intro w'; go_simp; with_reducible rfl
     rotate_left; · simp only [Act.put, List.setIfInBounds_toArray, List.set_cons_zero, List.set_cons_succ, i64_w, i32_w]; rfl
     exact norm_ (by simp only [putAll, Act.put, List.setIfInBounds_toArray, List.set_cons_zero, List.set_cons_succ]) (hCont (.slice Ao27 t350.length co27, .slice Ao28 t359.length co28, v363, v371, gb373) _ ⟨hHeld, (by exact Kd.R_nw (Kd.R_mono HO352.out (fun _ hk => ⟨hk.1.2, hk.2⟩))), (by exact Kd.R_nw HO361.out), (by exact Kd.R_nw (Kd.R_mono HO364.out (fun _ hk => ⟨hk.2, hk.1⟩))), (by exact Kd.R_nw (Kd.R_mono HO372.out (fun _ hk => ⟨hk.2, hk.1⟩))), (by exact blk_nw BK346.out), (by exact blk_nw BK347.out), (by exact blk_nw BK373.out), GW373.out, GE373.out, NB346_373.out, NB373_346.out, NB347_373.out, NB373_347.out, (by exact bel0)⟩)
   rintro ⟨v351, v360, v363, v371, gb373⟩ w30 ⟨hS_, h0_, h1_, h2_, h3_, h4_, h5_, h6_, h7_, h8_, h9_, h10_, h11_, h12_, h13_⟩
   have n0_ : Aside0 (Kd.R (Kd.int .i64) 3 w30 w.heap.size (fun k_ => some k_ ≠ (v363 : Value).ownBlock ∧ some k_ ≠ (v371 : Value).ownBlock) v351 t350) := ⟨h0_⟩
   have n1_ : Aside0 (Kd.R k82 82 w30 w.heap.size (fun _ => True) v360 t359) := ⟨h1_⟩
   have n2_ : Aside0 (Kd.R (Kd.int .i64) 3 w30 w.heap.size (fun k_ => some k_ ≠ (v351 : Value).ownBlock ∧ some k_ ≠ (v371 : Value).ownBlock) v363 t362) := ⟨h2_⟩
   have n3_ : Aside0 (Kd.R (Kd.int .i64) 3 w30 w.heap.size (fun k_ => some k_ ≠ (v351 : Value).ownBlock ∧ some k_ ≠ (v363 : Value).ownBlock) v371 t370) := ⟨h3_⟩
   have n4_ : Aside0 (w30.heap[gb346]? = some (.cells #[.slice A0_0 l0_0.length c0_0, .int .i64 a0_1, .int .i64 a0_2, .int .i64 a0_3, .int .i64 a0_4, .int .i64 a0_5] 88 (0, 0))) := ⟨h4_⟩
   have n5_ : Aside0 (w30.heap[gb347]? = some (.cells #[.int .i64 a1_0, .slice A1_1 l1_1.length c1_1] 37 (0, 0))) := ⟨h5_⟩
   have n6_ : Aside0 (w30.heap[gb373]? = some (.cells #[.slice none 0 0, .int .i64 0, .int .i64 0, .int .i64 0, .int .i64 0, .int .i64 0] 90 (0, 0))) := ⟨h6_⟩
   have n7_ : Aside0 (w.heap.size ≤ gb373) := ⟨h7_⟩
   have n8_ : Aside0 (w.heap.size ≤ gb373) := ⟨h8_⟩
   have n9_ : Aside0 (gb346 ≠ gb373) := ⟨h9_⟩
   have n10_ : Aside0 (gb373 ≠ gb346) := ⟨h10_⟩
   have n11_ : Aside0 (gb347 ≠ gb373) := ⟨h11_⟩
   have n12_ : Aside0 (gb373 ≠ gb347) := ⟨h12_⟩
   have n13_ : Aside0 (Below w.heap.size w w30) := ⟨h13_⟩
   clear BK346; clear BK347; clear HB; clear h0_ h1_ h2_ h3_ h4_ h5_ h6_ h7_ h8_ h9_ h10_ h11_ h12_ h13_
   have HO352 := n0_
   have HO361 := n1_
   have HO364 := n2_
   have HO372 := n3_
   have BK346 := n4_
   have BK347 := n5_
   have BK373 := n6_
   have GW373 := n7_
   have GE373 := n8_
   have NB346_373 := n9_
   have NB373_346 := n10_
   have NB347_373 := n11_
   have NB373_347 := n12_
   have HB := n13_
   clear n0_ n1_ n2_ n3_ n4_ n5_ n6_ n7_ n8_ n9_ n10_ n11_ n12_ n13_
   have hHeld : w30.cell? ⟨gb346, 0, none⟩ = some (.slice A0_0 l0_0.length c0_0) ∧ w30.cell? ⟨gb346, 1, none⟩ = some (.int .i64 a0_1) ∧ w30.cell? ⟨gb346, 2, none⟩ = some (.int .i64 a0_2) ∧ w30.cell? ⟨gb346, 3, none⟩ = some (.int .i64 a0_3) ∧ w30.cell? ⟨gb346, 4, none⟩ = some (.int .i64 a0_4) ∧ w30.cell? ⟨gb346, 5, none⟩ = some (.int .i64 a0_5) ∧ w30.cell? ⟨gb347, 0, none⟩ = some (.int .i64 a1_0) ∧ w30.cell? ⟨gb347, 1, none⟩ = some (.slice A1_1 l1_1.length c1_1) := hS_
   obtain ⟨Ao31, co31, eo31⟩ := Kd.R_slice HO364.out
   (first | subst eo31 | (injection eo31 with f1_ f2_ f3_; have f4_ := f1_.symm; have f5_ := f3_.symm; clear f1_ f2_ f3_; subst f4_; subst f5_))
   refine norm_ (a' := ?_) ?_ ?_
   rotate_left; · simp only [putAll, Act.put, List.setIfInBounds_toArray, List.set_cons_zero, List.set_cons_succ]; rfl
   refine one_ (i := 10) (N := none) #[true, true, true, true, true, true, true, true, true, true, true, false] rfl rfl (one_of HT_.out (by kernel_rfl)) (by decide) (fun K hK => ?_)
   have hs32 : w30.cell? ⟨gb373, 0, none⟩ = some (.slice none 0 0) := (blk_cell BK373.out 0).trans rfl
   have hfs32 := blk_frozen BK373.out 0
   have hns32_0 := NB346_373.out; have hns32_1 := NB347_373.out; have hms32_0 := NB373_346.out; have hms32_1 := NB373_347.out
   have hs33 : w30.cell? ⟨gb373, 1, none⟩ = some (.int .i64 0) := (blk_cell BK373.out 1).trans rfl
   have hfs33 := blk_frozen BK373.out 1
   have hns33_0 := NB346_373.out; have hns33_1 := NB347_373.out; have hms33_0 := NB373_346.out; have hms33_1 := NB373_347.out
   have hs34 : w30.cell? ⟨gb373, 2, none⟩ = some (.int .i64 0) := (blk_cell BK373.out 2).trans rfl
   have hfs34 := blk_frozen BK373.out 2
   have hns34_0 := NB346_373.out; have hns34_1 := NB347_373.out; have hms34_0 := NB373_346.out; have hms34_1 := NB373_347.out
   have hs35 : w30.cell? ⟨gb373, 3, none⟩ = some (.int .i64 0) := (blk_cell BK373.out 3).trans rfl
   have hfs35 := blk_frozen BK373.out 3
   have hns35_0 := NB346_373.out; have hns35_1 := NB347_373.out; have hms35_0 := NB373_346.out; have hms35_1 := NB373_347.out
   have hs36 : w30.cell? ⟨gb373, 4, none⟩ = some (.int .i64 0) := (blk_cell BK373.out 4).trans rfl
   have hfs36 := blk_frozen BK373.out 4
   have hns36_0 := NB346_373.out; have hns36_1 := NB347_373.out; have hms36_0 := NB373_346.out; have hms36_1 := NB373_347.out
   have hs37 : w30.cell? ⟨gb373, 5, none⟩ = some (.int .i64 0) := (blk_cell BK373.out 5).trans rfl
   have hfs37 := blk_frozen BK373.out 5
   have hns37_0 := NB346_373.out; have hns37_1 := NB347_373.out; have hms37_0 := NB373_346.out; have hms37_1 := NB373_347.out
   refine skip_ (w1 := ?_) (by rfl) rfl ?_ ?_
   rotate_left
   ·go_simp
    rfl
   refine hK.out _ _ ⟨((cell_far (p := ⟨gb373, _, none⟩) NB346_373.out _).trans (((cell_far (p := ⟨gb373, _, none⟩) NB346_373.out _).trans (((cell_far (p := ⟨gb373, _, none⟩) NB346_373.out _).trans (((cell_far (p := ⟨gb373, _, none⟩) NB346_373.out _).trans (((cell_far (p := ⟨gb373, _, none⟩) NB346_373.out _).trans (((cell_far (p := ⟨gb373, _, none⟩) NB346_373.out _).trans (hHeld.1)))))))))))), ((cell_far (p := ⟨gb373, _, none⟩) NB346_373.out _).trans (((cell_far (p := ⟨gb373, _, none⟩) NB346_373.out _).trans (((cell_far (p := ⟨gb373, _, none⟩) NB346_373.out _).trans (((cell_far (p := ⟨gb373, _, none⟩) NB346_373.out _).trans (((cell_far (p := ⟨gb373, _, none⟩) NB346_373.out _).trans (((cell_far (p := ⟨gb373, _, none⟩) NB346_373.out _).trans (hHeld.2.1)))))))))))), ((cell_far (p := ⟨gb373, _, none⟩) NB346_373.out _).trans (((cell_far (p := ⟨gb373, _, none⟩) NB346_373.out _).trans (((cell_far (p := ⟨gb373, _, none⟩) NB346_373.out _).trans (((cell_far (p := ⟨gb373, _, none⟩) NB346_373.out _).trans (((cell_far (p := ⟨gb373, _, none⟩) NB346_373.out _).trans (((cell_far (p := ⟨gb373, _, none⟩) NB346_373.out _).trans (hHeld.2.2.1)))))))))))), ((cell_far (p := ⟨gb373, _, none⟩) NB346_373.out _).trans (((cell_far (p := ⟨gb373, _, none⟩) NB346_373.out _).trans (((cell_far (p := ⟨gb373, _, none⟩) NB346_373.out _).trans (((cell_far (p := ⟨gb373, _, none⟩) NB346_373.out _).trans (((cell_far (p := ⟨gb373, _, none⟩) NB346_373.out _).trans (((cell_far (p := ⟨gb373, _, none⟩) NB346_373.out _).trans (hHeld.2.2.2.1)))))))))))), ((cell_far (p := ⟨gb373, _, none⟩) NB346_373.out _).trans (((cell_far (p := ⟨gb373, _, none⟩) NB346_373.out _).trans (((cell_far (p := ⟨gb373, _, none⟩) NB346_373.out _).trans (((cell_far (p := ⟨gb373, _, none⟩) NB346_373.out _).trans (((cell_far (p := ⟨gb373, _, none⟩) NB346_373.out _).trans (((cell_far (p := ⟨gb373, _, none⟩) NB346_373.out _).trans (hHeld.2.2.2.2.1)))))))))))), ((cell_far (p := ⟨gb373, _, none⟩) NB346_373.out _).trans (((cell_far (p := ⟨gb373, _, none⟩) NB346_373.out _).trans (((cell_far (p := ⟨gb373, _, none⟩) NB346_373.out _).trans (((cell_far (p := ⟨gb373, _, none⟩) NB346_373.out _).trans (((cell_far (p := ⟨gb373, _, none⟩) NB346_373.out _).trans (((cell_far (p := ⟨gb373, _, none⟩) NB346_373.out _).trans (hHeld.2.2.2.2.2.1)))))))))))), ((cell_far (p := ⟨gb373, _, none⟩) NB347_373.out _).trans (((cell_far (p := ⟨gb373, _, none⟩) NB347_373.out _).trans (((cell_far (p := ⟨gb373, _, none⟩) NB347_373.out _).trans (((cell_far (p := ⟨gb373, _, none⟩) NB347_373.out _).trans (((cell_far (p := ⟨gb373, _, none⟩) NB347_373.out _).trans (((cell_far (p := ⟨gb373, _, none⟩) NB347_373.out _).trans (hHeld.2.2.2.2.2.2.1)))))))))))), ((cell_far (p := ⟨gb373, _, none⟩) NB347_373.out _).trans (((cell_far (p := ⟨gb373, _, none⟩) NB347_373.out _).trans (((cell_far (p := ⟨gb373, _, none⟩) NB347_373.out _).trans (((cell_far (p := ⟨gb373, _, none⟩) NB347_373.out _).trans (((cell_far (p := ⟨gb373, _, none⟩) NB347_373.out _).trans (((cell_far (p := ⟨gb373, _, none⟩) NB347_373.out _).trans (hHeld.2.2.2.2.2.2.2))))))))))))⟩ (fun hHeld => ?_)
   clear hK K
   refine pure_ (i := 11) (N := some 9) (v := ?_) (a' := ?_) #[true, true, true, true, true, true, true, true, true, true, true, true] rfl rfl (any_of HT_.out (by kernel_rfl)) (fun _ _ _ h => h) (Or.inl ⟨by rfl, ?_⟩) ?_ ?_
   rotate_left; · intro w'; go_simp; with_reducible rfl
   rotate_left; · simp only [Act.put, List.setIfInBounds_toArray, List.set_cons_zero, List.set_cons_succ, i64_w, i32_w]; rfl
   refine done_ (done_of HT_.out (by kernel_rfl)) ?_
   have hnb38 := NB346_347.out; have hnc38 := NB347_346.out; have hnb39 := NB346_373.out; have hnc39 := NB373_346.out; obtain ⟨hcz40_0, hcz40_1, hcz40_2, hcz40_3, hcz40_4, hcz40_5⟩ := blkz6 BK346.out; have hfz40_0 := blkf BK346.out
   go_upto_region 12 with (first | ((with_reducible refine gate_callee (f := 58) rfl ?_); refine goesL_ (some 39) rfl rfl Try.func58 (by kernel_rfl) rfl #[.agg #[.slice A0_0 l0_0.length c0_0, .int .i64 a0_1, .int .i64 a0_2, .int .i64 a0_3, .int .i64 a0_4, .int .i64 a0_5]] rfl (by (try simp only [List.map_toArray, List.map_cons, List.map_nil]); first | done | rfl | (simp only [List.length_drop, List.length_take]; rfl)) ?_; (with_reducible refine (laws_toProber.calls k _ _ l0_0 a0_1 a0_2 a0_3 a0_4 a0_5 t374 t377 t378 t379 t380 t381 _ ?side1 ?side2 A19.out).mono ?_); (case side1 => exact Kd.C_below HR0_0.out (by exact bel0)); (case side2 => exact HC0_0.out); rintro e w41 ⟨v375, rfl, ho0, hb⟩; refine ⟨_, rfl, ?_⟩; have n_ := an (Kd.R_elder' (by exact (Kd.R_farN HO352.out BK373.out)) (Kd.R_base ho0) hb) (an (Kd.R_below (by exact (Kd.R_farN HO361.out BK373.out)) hb) (an (Kd.R_elder' (by exact (Kd.R_farN HO364.out BK373.out)) (Kd.R_base ho0) hb) (an (Kd.R_elder' (by exact (Kd.R_farN HO372.out BK373.out)) (Kd.R_base ho0) hb) (an (Kd.R_lower (Kd.R_new' (Kd.R_new' (Kd.R_new' ho0 (Kd.R_lt (by exact (Kd.R_farN HO352.out BK373.out)))) (Kd.R_lt (by exact (Kd.R_farN HO364.out BK373.out)))) (Kd.R_lt (by exact (Kd.R_farN HO372.out BK373.out)))) (below_size (by exact bel0))) (an (blk_below (blk_kb BK346.out NB346_373.out) hb) (an (blk_below (blk_kb BK347.out NB347_373.out) hb) (an (blk_below (g := gb373) (o := .cells #[.slice Ao31 t362.length co31, .int .i64 t365, .int .i64 t366, .int .i64 t367, .int .i64 t368, .int .i64 t369] 90 (0, 0)) (by (with_reducible repeat (first | refine blk_drewN ?_ _ | refine blk_drew ?_ | refine blk_alloc ?_ _)); exact blk_fill6 BK373.out) hb) (an (below_step (by exact bel0) hb) (trivial))))))))); clear HO352 HO361 HO364 HO372 BK346 BK347 BK373 HB; obtain ⟨HO352, HO361, HO364, HO372, HO376, BK346, BK347, BK373, HB, -⟩ := n_; (try clear hb); (try clear hb2); (try clear hk); (try clear hi); (try clear ho0)) | ((with_reducible refine gate_dst (N := 10) rfl ?_); refine box_event ?hg (N := 10) ?hd (cs := #[.slice none 0 0, .int .i64 0, .int .i64 0, .int .i64 0, .int .i64 0, .int .i64 0]) (t := 90) ?hr ?_; (case hd => rfl); (case hg => rfl); (case hr => first | (go_simp; done) | (go_simp; rfl)); intro gb382 hg w42 hbox hb; have n_ := an (Kd.R_below (by exact Kd.R_nw HO352.out) hb) (an (Kd.R_below (by exact Kd.R_nw HO361.out) hb) (an (Kd.R_below (by exact Kd.R_nw HO364.out) hb) (an (Kd.R_below (by exact Kd.R_nw HO372.out) hb) (an (Kd.R_below (by exact Kd.R_nw HO376.out) hb) (an (blk_below (blk_nw BK346.out) hb) (an (blk_below (blk_nw BK347.out) hb) (an (blk_below (blk_nw BK373.out) hb) (an (below_step (by exact bel0) hb) (an (hbox) (an ((by rw [hg]; exact (below_size (by exact bel0)) : w.heap.size ≤ gb382)) (an ((by rw [hg]; exact (below_size (by exact bel0)) : w.heap.size ≤ gb382)) (an ((by rw [hg]; exact Nat.ne_of_lt (blk_lt (blk_nw BK346.out)) : gb346 ≠ gb382)) (an ((by rw [hg]; exact Nat.ne_of_gt (blk_lt (blk_nw BK346.out)) : gb382 ≠ gb346)) (an ((by rw [hg]; exact Nat.ne_of_lt (blk_lt (blk_nw BK347.out)) : gb347 ≠ gb382)) (an ((by rw [hg]; exact Nat.ne_of_gt (blk_lt (blk_nw BK347.out)) : gb382 ≠ gb347)) (an ((by rw [hg]; exact Nat.ne_of_lt (blk_lt (blk_nw BK373.out)) : gb373 ≠ gb382)) (an ((by rw [hg]; exact Nat.ne_of_gt (blk_lt (blk_nw BK373.out)) : gb382 ≠ gb373)) (trivial)))))))))))))))))); clear HO352 HO361 HO364 HO372 HO376 BK346 BK347 BK373 HB; obtain ⟨HO352, HO361, HO364, HO372, HO376, BK346, BK347, BK373, HB, BK382, GW382, GE382, NB346_382, NB382_346, NB347_382, NB382_347, NB373_382, NB382_373, -⟩ := n_; clear hb hbox hg; obtain ⟨Ao43, co43, eo43⟩ := Kd.R_slice HO376.out; subst eo43; have hnb44 := NB382_346.out; have hnc44 := NB346_382.out; have hnb45 := NB382_347.out; have hnc45 := NB347_382.out; have hnb46 := NB382_373.out; have hnc46 := NB373_382.out; obtain ⟨hcz47_0, hcz47_1, hcz47_2, hcz47_3, hcz47_4, hcz47_5⟩ := blkz6 BK382.out; have hfz47_0 := blkf BK382.out; have hnb48 := NB347_373.out; have hnc48 := NB373_347.out; obtain ⟨hcz49_0, hcz49_1⟩ := blkz2 BK347.out; have hfz49_0 := blkf BK347.out) | ((with_reducible refine gate_callee (f := 25) rfl ?_); refine goesL_ (some 41) rfl rfl Try.func25 (by kernel_rfl) rfl #[.agg #[.int .i64 a1_0, .slice A1_1 l1_1.length c1_1]] rfl (by (try simp only [List.map_toArray, List.map_cons, List.map_nil]); first | done | rfl | (simp only [List.length_drop, List.length_take]; rfl)) ?_; (with_reducible refine (laws_toTable.calls k a1_0 _ _ l1_1 t383 t384 _ ?side1 ?side2 A20.out).mono ?_); (case side1 => exact Kd.C_below HR1_1.out (by exact bel0)); (case side2 => exact HC1_1.out); rintro e w50 ⟨v385, rfl, ho0, hb⟩; refine ⟨_, rfl, ?_⟩; have n_ := an (Kd.R_below (by exact (Kd.R_farN HO352.out BK382.out)) hb) (an (Kd.R_elder' (by exact (Kd.R_farN HO361.out BK382.out)) (Kd.R_base ho0) hb) (an (Kd.R_below (by exact (Kd.R_farN HO364.out BK382.out)) hb) (an (Kd.R_below (by exact (Kd.R_farN HO372.out BK382.out)) hb) (an (Kd.R_below (by exact (Kd.R_farN HO376.out BK382.out)) hb) (an (Kd.R_lower (Kd.R_new' ho0 (Kd.R_lt (by exact (Kd.R_farN HO361.out BK382.out)))) (below_size (by exact bel0))) (an (blk_below (blk_kb BK346.out NB346_382.out) hb) (an (blk_below (blk_kb BK347.out NB347_382.out) hb) (an (blk_below (blk_kb BK373.out NB373_382.out) hb) (an (blk_below (g := gb382) (o := .cells #[.slice Ao43 t374.length co43, .int .i64 t377, .int .i64 t378, .int .i64 t379, .int .i64 t380, .int .i64 t381] 90 (0, 0)) (by (with_reducible repeat (first | refine blk_drewN ?_ _ | refine blk_drew ?_ | refine blk_alloc ?_ _)); exact blk_fill6 BK382.out) hb) (an (below_step (by exact bel0) hb) (trivial))))))))))); clear HO352 HO361 HO364 HO372 HO376 BK346 BK347 BK373 BK382 HB; obtain ⟨HO352, HO361, HO364, HO372, HO376, HO386, BK346, BK347, BK373, BK382, HB, -⟩ := n_; (try clear hb); (try clear hb2); (try clear hk); (try clear hi); (try clear ho0)) | ((with_reducible refine gate_dst (N := 11) rfl ?_); refine box_event ?hg (N := 11) ?hd (cs := #[.int .i64 0, .slice none 0 0]) (t := 41) ?hr ?_; (case hd => rfl); (case hg => rfl); (case hr => first | (go_simp; done) | (go_simp; rfl)); intro gb387 hg w51 hbox hb; have n_ := an (Kd.R_below (by exact Kd.R_nw HO352.out) hb) (an (Kd.R_below (by exact Kd.R_nw HO361.out) hb) (an (Kd.R_below (by exact Kd.R_nw HO364.out) hb) (an (Kd.R_below (by exact Kd.R_nw HO372.out) hb) (an (Kd.R_below (by exact Kd.R_nw HO376.out) hb) (an (Kd.R_below (by exact Kd.R_nw HO386.out) hb) (an (blk_below (blk_nw BK346.out) hb) (an (blk_below (blk_nw BK347.out) hb) (an (blk_below (blk_nw BK373.out) hb) (an (blk_below (blk_nw BK382.out) hb) (an (below_step (by exact bel0) hb) (an (hbox) (an ((by rw [hg]; exact (below_size (by exact bel0)) : w.heap.size ≤ gb387)) (an ((by rw [hg]; exact (below_size (by exact bel0)) : w.heap.size ≤ gb387)) (an ((by rw [hg]; exact Nat.ne_of_lt (blk_lt (blk_nw BK346.out)) : gb346 ≠ gb387)) (an ((by rw [hg]; exact Nat.ne_of_gt (blk_lt (blk_nw BK346.out)) : gb387 ≠ gb346)) (an ((by rw [hg]; exact Nat.ne_of_lt (blk_lt (blk_nw BK347.out)) : gb347 ≠ gb387)) (an ((by rw [hg]; exact Nat.ne_of_gt (blk_lt (blk_nw BK347.out)) : gb387 ≠ gb347)) (an ((by rw [hg]; exact Nat.ne_of_lt (blk_lt (blk_nw BK373.out)) : gb373 ≠ gb387)) (an ((by rw [hg]; exact Nat.ne_of_gt (blk_lt (blk_nw BK373.out)) : gb387 ≠ gb373)) (an ((by rw [hg]; exact Nat.ne_of_lt (blk_lt (blk_nw BK382.out)) : gb382 ≠ gb387)) (an ((by rw [hg]; exact Nat.ne_of_gt (blk_lt (blk_nw BK382.out)) : gb387 ≠ gb382)) (trivial)))))))))))))))))))))); clear HO352 HO361 HO364 HO372 HO376 HO386 BK346 BK347 BK373 BK382 HB; obtain ⟨HO352, HO361, HO364, HO372, HO376, HO386, BK346, BK347, BK373, BK382, HB, BK387, GW387, GE387, NB346_387, NB387_346, NB347_387, NB387_347, NB373_387, NB387_373, NB382_387, NB387_382, -⟩ := n_; clear hb hbox hg; have hnb52 := NB387_346.out; have hnc52 := NB346_387.out; have hnb53 := NB387_347.out; have hnc53 := NB347_387.out; have hnb54 := NB387_373.out; have hnc54 := NB373_387.out; have hnb55 := NB387_382.out; have hnc55 := NB382_387.out; obtain ⟨hcz56_0, hcz56_1⟩ := blkz2 BK387.out; have hfz56_0 := blkf BK387.out; obtain ⟨Ao57, co57, eo57⟩ := Kd.R_slice HO386.out; subst eo57; obtain ⟨hcz58_0, hcz58_1, hcz58_2, hcz58_3, hcz58_4, hcz58_5⟩ := blkz6 BK382.out; have hfz58_0 := blkf BK382.out) | ((with_reducible refine gate_callee (f := 59) rfl ?_); refine goesL_ (some 46) rfl rfl Try.func59 (by kernel_rfl) rfl #[.agg #[.slice Ao43 t374.length co43, .int .i64 t377, .int .i64 t378, .int .i64 t379, .int .i64 t380, .int .i64 t381], .agg #[.int .i64 t383, .slice Ao57 t384.length co57], .int .i64 a2] rfl (by (try simp only [List.map_toArray, List.map_cons, List.map_nil]); first | done | rfl | (simp only [List.length_drop, List.length_take]; rfl)) ?_; (with_reducible refine (impl_Helpers.calls k _ _ t374 t377 t378 t379 t380 t381 t383 _ _ t384 a2 t388 t391 t392 t393 t394 t395 t396 _ ?side1 ?side2 ?side3 ?side4 A21.out).mono ?_); (case side1 => refine (Kd.R_reads' (e := 3) (base := w.heap.size) (ok := fun k_ => (((True ∧ some k_ ≠ (v351 : Value).ownBlock) ∧ some k_ ≠ (.slice Ao31 t362.length co31 : Value).ownBlock) ∧ some k_ ≠ (v371 : Value).ownBlock)) (n := t374.length) (c := co43) ?_).2.2; exact (by exact (Kd.R_farN HO376.out BK387.out))); (case side2 => exact (Kd.R_reads' HO376.out).2.1); (case side3 => refine (Kd.R_reads' (e := 82) (base := w.heap.size) (ok := fun k_ => (True ∧ some k_ ≠ (v360 : Value).ownBlock)) (n := t384.length) (c := co57) ?_).2.2; exact (by exact (Kd.R_farN HO386.out BK387.out))); (case side4 => exact (Kd.R_reads' HO386.out).2.1); rintro e w59 ⟨v389, v397, rfl, ho0, ho1, hb⟩; refine ⟨_, rfl, ?_⟩; have n_ := an (Kd.R_mono (Kd.R_told (Kd.R_told (Kd.R_old (by exact (Kd.R_farN HO352.out BK387.out)) hb) (Kd.R_base ho0)) (Kd.R_base ho1)) (fun _ h_ => h_.1)) (an (Kd.R_below (by exact (Kd.R_farN HO361.out BK387.out)) hb) (an (Kd.R_mono (Kd.R_told (Kd.R_told (Kd.R_old (by exact (Kd.R_farN HO364.out BK387.out)) hb) (Kd.R_base ho0)) (Kd.R_base ho1)) (fun _ h_ => h_.1)) (an (Kd.R_mono (Kd.R_told (Kd.R_told (Kd.R_old (by exact (Kd.R_farN HO372.out BK387.out)) hb) (Kd.R_base ho0)) (Kd.R_base ho1)) (fun _ h_ => h_.1)) (an (Kd.R_mono (Kd.R_told (Kd.R_told (Kd.R_old (by exact (Kd.R_farN HO376.out BK387.out)) hb) (Kd.R_base ho0)) (Kd.R_base ho1)) (fun _ h_ => h_.1)) (an (Kd.R_below (by exact (Kd.R_farN HO386.out BK387.out)) hb) (an (Kd.R_lower (Kd.R_new' (Kd.R_new' (Kd.R_new' (Kd.R_new' ho0 (Kd.R_lt (by exact (Kd.R_farN HO352.out BK387.out)))) (Kd.R_lt (by exact (Kd.R_farN HO364.out BK387.out)))) (Kd.R_lt (by exact (Kd.R_farN HO372.out BK387.out)))) (Kd.R_lt (by exact (Kd.R_farN HO376.out BK387.out)))) (below_size (by exact bel0))) (an (Kd.R_lower (Kd.R_new' (Kd.R_new' (Kd.R_new' (Kd.R_new' ho1 (Kd.R_lt (by exact (Kd.R_farN HO352.out BK387.out)))) (Kd.R_lt (by exact (Kd.R_farN HO364.out BK387.out)))) (Kd.R_lt (by exact (Kd.R_farN HO372.out BK387.out)))) (Kd.R_lt (by exact (Kd.R_farN HO376.out BK387.out)))) (below_size (by exact bel0))) (an (blk_below (blk_kb BK346.out NB346_387.out) hb) (an (blk_below (blk_kb BK347.out NB347_387.out) hb) (an (blk_below (blk_kb BK373.out NB373_387.out) hb) (an (blk_below (blk_kb BK382.out NB382_387.out) hb) (an (blk_below (g := gb387) (o := .cells #[.int .i64 t383, .slice Ao57 t384.length co57] 41 (0, 0)) (by (with_reducible repeat (first | refine blk_drewN ?_ _ | refine blk_drew ?_ | refine blk_alloc ?_ _)); exact blk_fill2 BK387.out) hb) (an (below_step (by exact bel0) hb) (trivial)))))))))))))); clear HO352 HO361 HO364 HO372 HO376 HO386 BK346 BK347 BK373 BK382 BK387 HB; obtain ⟨HO352, HO361, HO364, HO372, HO376, HO386, HO390, HO398, BK346, BK347, BK373, BK382, BK387, HB, -⟩ := n_; (try clear hb); (try clear hb2); (try clear hk); (try clear hi); (try clear ho0); (try clear ho1)) | ((with_reducible refine gate_dst (N := 12) rfl ?_); refine box_event ?hg (N := 12) ?hd (cs := #[.slice none 0 0, .int .i64 0, .int .i64 0, .int .i64 0, .int .i64 0, .int .i64 0]) (t := 90) ?hr ?_; (case hd => rfl); (case hg => rfl); (case hr => first | (go_simp; done) | (go_simp; rfl)); intro gb399 hg w60 hbox hb; have n_ := an (Kd.R_below (by exact Kd.R_nw HO352.out) hb) (an (Kd.R_below (by exact Kd.R_nw HO361.out) hb) (an (Kd.R_below (by exact Kd.R_nw HO364.out) hb) (an (Kd.R_below (by exact Kd.R_nw HO372.out) hb) (an (Kd.R_below (by exact Kd.R_nw HO376.out) hb) (an (Kd.R_below (by exact Kd.R_nw HO386.out) hb) (an (Kd.R_below (by exact Kd.R_nw HO390.out) hb) (an (Kd.R_below (by exact Kd.R_nw HO398.out) hb) (an (blk_below (blk_nw BK346.out) hb) (an (blk_below (blk_nw BK347.out) hb) (an (blk_below (blk_nw BK373.out) hb) (an (blk_below (blk_nw BK382.out) hb) (an (blk_below (blk_nw BK387.out) hb) (an (below_step (by exact bel0) hb) (an (hbox) (an ((by rw [hg]; exact (below_size (by exact bel0)) : w.heap.size ≤ gb399)) (an ((by rw [hg]; exact (below_size (by exact bel0)) : w.heap.size ≤ gb399)) (an ((by rw [hg]; exact Nat.ne_of_lt (blk_lt (blk_nw BK346.out)) : gb346 ≠ gb399)) (an ((by rw [hg]; exact Nat.ne_of_gt (blk_lt (blk_nw BK346.out)) : gb399 ≠ gb346)) (an ((by rw [hg]; exact Nat.ne_of_lt (blk_lt (blk_nw BK347.out)) : gb347 ≠ gb399)) (an ((by rw [hg]; exact Nat.ne_of_gt (blk_lt (blk_nw BK347.out)) : gb399 ≠ gb347)) (an ((by rw [hg]; exact Nat.ne_of_lt (blk_lt (blk_nw BK373.out)) : gb373 ≠ gb399)) (an ((by rw [hg]; exact Nat.ne_of_gt (blk_lt (blk_nw BK373.out)) : gb399 ≠ gb373)) (an ((by rw [hg]; exact Nat.ne_of_lt (blk_lt (blk_nw BK382.out)) : gb382 ≠ gb399)) (an ((by rw [hg]; exact Nat.ne_of_gt (blk_lt (blk_nw BK382.out)) : gb399 ≠ gb382)) (an ((by rw [hg]; exact Nat.ne_of_lt (blk_lt (blk_nw BK387.out)) : gb387 ≠ gb399)) (an ((by rw [hg]; exact Nat.ne_of_gt (blk_lt (blk_nw BK387.out)) : gb399 ≠ gb387)) (trivial))))))))))))))))))))))))))); clear HO352 HO361 HO364 HO372 HO376 HO386 HO390 HO398 BK346 BK347 BK373 BK382 BK387 HB; obtain ⟨HO352, HO361, HO364, HO372, HO376, HO386, HO390, HO398, BK346, BK347, BK373, BK382, BK387, HB, BK399, GW399, GE399, NB346_399, NB399_346, NB347_399, NB399_347, NB373_399, NB399_373, NB382_399, NB399_382, NB387_399, NB399_387, -⟩ := n_; clear hb hbox hg; obtain ⟨Ao61, co61, eo61⟩ := Kd.R_slice HO390.out; subst eo61; have hnb62 := NB399_346.out; have hnc62 := NB346_399.out; have hnb63 := NB399_347.out; have hnc63 := NB347_399.out; have hnb64 := NB399_373.out; have hnc64 := NB373_399.out; have hnb65 := NB399_382.out; have hnc65 := NB382_399.out; have hnb66 := NB399_387.out; have hnc66 := NB387_399.out; obtain ⟨hcz67_0, hcz67_1, hcz67_2, hcz67_3, hcz67_4, hcz67_5⟩ := blkz6 BK399.out; have hfz67_0 := blkf BK399.out))
   (try simp only [Act.put, List.setIfInBounds_toArray, List.set_cons_zero, List.set_cons_succ])
   go_cut [58] (fun v58 wc => ∃ (kq : Nat) (x58_21 : Bool), v58 = .bool x58_21 ∧ Aside0 (laws_FnExactHelpers.j0 kq a2 t370 t396 x58_21 l0_0 a0_1 a0_2 a0_3 a0_4 a0_5 a1_0 l1_1 t362 t365 t366 t367 t368 t369 t374 t377 t378 t379 t380 t381 t383 t384 t388 t391 t392 t393 t394 t395 = some r) ∧ Aside0 (kq ≤ k) ∧ Aside0 (Kd.R (Kd.int .i64) 3 wc w.heap.size (fun k_ => some k_ ≠ (v397 : Value).ownBlock ∧ some k_ ≠ ((.slice Ao31 t362.length co31) : Value).ownBlock ∧ some k_ ≠ ((.slice Ao43 t374.length co43) : Value).ownBlock ∧ some k_ ≠ ((.slice Ao61 t388.length co61) : Value).ownBlock) v371 t370) ∧ Aside0 (Kd.R (Kd.int .i64) 3 wc w.heap.size (fun k_ => some k_ ≠ (v371 : Value).ownBlock ∧ some k_ ≠ ((.slice Ao31 t362.length co31) : Value).ownBlock ∧ some k_ ≠ ((.slice Ao43 t374.length co43) : Value).ownBlock ∧ some k_ ≠ ((.slice Ao61 t388.length co61) : Value).ownBlock) v397 t396) ∧ Aside0 (Kd.R (Kd.int .i64) 3 wc w.heap.size (fun k_ => some k_ ≠ (v371 : Value).ownBlock ∧ some k_ ≠ (v397 : Value).ownBlock ∧ some k_ ≠ ((.slice Ao43 t374.length co43) : Value).ownBlock ∧ some k_ ≠ ((.slice Ao61 t388.length co61) : Value).ownBlock) (.slice Ao31 t362.length co31) t362) ∧ Aside0 (Kd.R (Kd.int .i64) 3 wc w.heap.size (fun k_ => some k_ ≠ (v371 : Value).ownBlock ∧ some k_ ≠ (v397 : Value).ownBlock ∧ some k_ ≠ ((.slice Ao31 t362.length co31) : Value).ownBlock ∧ some k_ ≠ ((.slice Ao61 t388.length co61) : Value).ownBlock) (.slice Ao43 t374.length co43) t374) ∧ Aside0 (Kd.R k82 82 wc w.heap.size (fun _ => True) (.slice Ao57 t384.length co57) t384) ∧ Aside0 (Kd.R (Kd.int .i64) 3 wc w.heap.size (fun k_ => some k_ ≠ (v371 : Value).ownBlock ∧ some k_ ≠ (v397 : Value).ownBlock ∧ some k_ ≠ ((.slice Ao31 t362.length co31) : Value).ownBlock ∧ some k_ ≠ ((.slice Ao43 t374.length co43) : Value).ownBlock) (.slice Ao61 t388.length co61) t388) ∧ Aside0 (wc.heap[gb346]? = some (.cells #[(.slice A0_0 l0_0.length c0_0), .int .i64 a0_1, .int .i64 a0_2, .int .i64 a0_3, .int .i64 a0_4, .int .i64 a0_5] 88 (0, 0))) ∧ Aside0 (wc.heap[gb347]? = some (.cells #[.int .i64 a1_0, (.slice A1_1 l1_1.length c1_1)] 37 (0, 0))) ∧ Aside0 (wc.heap[gb373]? = some (.cells #[(.slice Ao31 t362.length co31), .int .i64 t365, .int .i64 t366, .int .i64 t367, .int .i64 t368, .int .i64 t369] 90 (0, 0))) ∧ Aside0 (wc.heap[gb382]? = some (.cells #[(.slice Ao43 t374.length co43), .int .i64 t377, .int .i64 t378, .int .i64 t379, .int .i64 t380, .int .i64 t381] 90 (0, 0))) ∧ Aside0 (wc.heap[gb387]? = some (.cells #[.int .i64 t383, (.slice Ao57 t384.length co57)] 41 (0, 0))) ∧ Aside0 (wc.heap[gb399]? = some (.cells #[(.slice Ao61 t388.length co61), .int .i64 t391, .int .i64 t392, .int .i64 t393, .int .i64 t394, .int .i64 t395] 90 (0, 0))) ∧ Aside0 (Below w.heap.size w wc))
   case first =>
    have H := HC22.out; clear HC22; replace H := Option.bind_eq_some_iff.mp H; obtain ⟨t400, A680, H⟩ := H; have A68 := Aside0.mk A680; clear A680; have hnb69 := NB399_346.out; have hnc69 := NB346_399.out; have hnb70 := NB399_347.out; have hnc70 := NB347_399.out; have hnb71 := NB399_373.out; have hnc71 := NB373_399.out; have hnb72 := NB399_382.out; have hnc72 := NB382_399.out; have hnb73 := NB399_387.out; have hnc73 := NB387_399.out; obtain ⟨hcz74_0, hcz74_1, hcz74_2, hcz74_3, hcz74_4, hcz74_5⟩ := blkz6 BK399.out; have hfz74_0 := blkf BK399.out; have hnb75 := NB373_346.out; have hnc75 := NB346_373.out; have hnb76 := NB373_347.out; have hnc76 := NB347_373.out; have hnb77 := NB373_382.out; have hnc77 := NB382_373.out; have hnb78 := NB373_387.out; have hnc78 := NB387_373.out; obtain ⟨hcz79_0, hcz79_1, hcz79_2, hcz79_3, hcz79_4, hcz79_5⟩ := blkz6 BK373.out; have hfz79_0 := blkf BK373.out
    replace H := Aside0.mk H
    go_wp2_with (first | ((with_reducible refine gate_callee (f := 60) rfl ?_); refine goesL_ (some 51) rfl rfl Try.func60 (by kernel_rfl) rfl #[.agg #[.slice Ao61 t388.length co61, .int .i64 t391, .int .i64 t392, .int .i64 t393, .int .i64 t394, .int .i64 t395], .agg #[.slice Ao31 t362.length co31, .int .i64 t365, .int .i64 t366, .int .i64 t367, .int .i64 t368, .int .i64 t369]] rfl (by (try simp only [List.map_toArray, List.map_cons, List.map_nil]); first | done | rfl | (simp only [List.length_drop, List.length_take]; rfl)) ?_; (with_reducible refine (laws_eqProber.calls k _ _ t388 t391 t392 t393 t394 t395 _ _ t362 t365 t366 t367 t368 t369 t400 _ ?side1 ?side2 ?side3 ?side4 A68.out).mono ?_); (case side1 => refine (Kd.R_reads' (e := 3) (base := w.heap.size) (ok := fun k_ => ((((some k_ ≠ (v397 : Value).ownBlock ∧ some k_ ≠ (v351 : Value).ownBlock) ∧ some k_ ≠ (.slice Ao31 t362.length co31 : Value).ownBlock) ∧ some k_ ≠ (v371 : Value).ownBlock) ∧ some k_ ≠ (.slice Ao43 t374.length co43 : Value).ownBlock)) (n := t388.length) (c := co61) ?_).2.2; exact (by exact (Kd.R_farN HO390.out BK399.out))); (case side2 => exact (Kd.R_reads' HO390.out).2.1); (case side3 => refine (Kd.R_reads' (e := 3) (base := w.heap.size) (ok := fun k_ => ((((some k_ ≠ (v351 : Value).ownBlock ∧ some k_ ≠ (v371 : Value).ownBlock) ∧ some k_ ≠ (.slice Ao43 t374.length co43 : Value).ownBlock) ∧ some k_ ≠ (.slice Ao61 t388.length co61 : Value).ownBlock) ∧ some k_ ≠ (v397 : Value).ownBlock)) (n := t362.length) (c := co31) ?_).2.2; exact (by exact (Kd.R_farN HO364.out BK399.out))); (case side4 => exact (Kd.R_reads' HO364.out).2.1); rintro e w80 ⟨rfl, hb⟩; refine ⟨_, rfl, ?_⟩; have n_ := an (Kd.R_below (by exact (Kd.R_farN HO352.out BK399.out)) hb) (an (Kd.R_below (by exact (Kd.R_farN HO361.out BK399.out)) hb) (an (Kd.R_below (by exact (Kd.R_farN HO364.out BK399.out)) hb) (an (Kd.R_below (by exact (Kd.R_farN HO372.out BK399.out)) hb) (an (Kd.R_below (by exact (Kd.R_farN HO376.out BK399.out)) hb) (an (Kd.R_below (by exact (Kd.R_farN HO386.out BK399.out)) hb) (an (Kd.R_below (by exact (Kd.R_farN HO390.out BK399.out)) hb) (an (Kd.R_below (by exact (Kd.R_farN HO398.out BK399.out)) hb) (an (blk_below (blk_kb BK346.out NB346_399.out) hb) (an (blk_below (blk_kb BK347.out NB347_399.out) hb) (an (blk_below (blk_kb BK373.out NB373_399.out) hb) (an (blk_below (blk_kb BK382.out NB382_399.out) hb) (an (blk_below (blk_kb BK387.out NB387_399.out) hb) (an (blk_below (g := gb399) (o := .cells #[.slice Ao61 t388.length co61, .int .i64 t391, .int .i64 t392, .int .i64 t393, .int .i64 t394, .int .i64 t395] 90 (0, 0)) (by (with_reducible repeat (first | refine blk_drewN ?_ _ | refine blk_drew ?_ | refine blk_alloc ?_ _)); exact blk_fill6 BK399.out) hb) (an (below_step (by exact bel0) hb) (trivial))))))))))))))); clear HO352 HO361 HO364 HO372 HO376 HO386 HO390 HO398 BK346 BK347 BK373 BK382 BK387 BK399 HB; obtain ⟨HO352, HO361, HO364, HO372, HO376, HO386, HO390, HO398, BK346, BK347, BK373, BK382, BK387, BK399, HB, -⟩ := n_; (try clear hb); (try clear hb2); (try clear hk); (try clear hi); refine Stop.out ?_))
    refine Stop.mk ?_
    replace H := H.out
    by_cases c81 : t400 = true
    ·subst c81; rw [if_pos rfl] at H; replace H := Option.bind_eq_some_iff.mp H; obtain ⟨t401, A820, H⟩ := H; have A82 := Aside0.mk A820; clear A820
     have H' := Aside0.mk H
     clear H
     obtain ⟨Ao83, co83, eo83⟩ := Kd.R_slice HO398.out
     subst eo83
     obtain ⟨Ao84, co84, eo84⟩ := Kd.R_slice HO372.out
     subst eo84
     go_wp2_with (first | (go_at_call 43; (with_reducible refine (laws_eqIntS.calls k _ _ t396 _ _ t370 t401 _ ?side1 ?side2 ?side3 ?side4 A82.out).mono ?_); (case side1 => repeat (first | exact (Kd.R_reads' HO398.out).2.2 | (with_reducible refine Kd.C_alloc ?_ _) | (with_reducible refine Kd.C_drewN ?_ _) | (with_reducible refine Kd.C_drew ?_))); (case side2 => exact (Kd.R_reads' HO398.out).2.1); (case side3 => repeat (first | exact (Kd.R_reads' HO372.out).2.2 | (with_reducible refine Kd.C_alloc ?_ _) | (with_reducible refine Kd.C_drewN ?_ _) | (with_reducible refine Kd.C_drew ?_))); (case side4 => exact (Kd.R_reads' HO372.out).2.1); rintro e w' ⟨rfl, ⟨nd, rfl⟩⟩))
     go_meet
     case rel => exact ⟨_, (!t401), (by first | rfl | (simp; done) | (simp [*]; done)), H', ⟨by first | omega | exact Nat.le_refl _⟩, ⟨by exact Kd.R_nw (Kd.R_mono HO372.out (fun _ hk => ⟨hk.2, ⟨hk.1.1.1.2, ⟨hk.1.1.2, hk.1.2⟩⟩⟩))⟩, ⟨by exact Kd.R_nw (Kd.R_mono HO398.out (fun _ hk => ⟨hk.1.2, ⟨hk.1.1.2, ⟨hk.2, hk.1.1.1.1⟩⟩⟩))⟩, ⟨by exact Kd.R_nw (Kd.R_mono HO364.out (fun _ hk => ⟨hk.1.1.1.2, ⟨hk.2, ⟨hk.1.1.2, hk.1.2⟩⟩⟩))⟩, ⟨by exact Kd.R_nw (Kd.R_mono HO376.out (fun _ hk => ⟨hk.1.1.2, ⟨hk.2, ⟨hk.1.1.1.2, hk.1.2⟩⟩⟩))⟩, ⟨by exact Kd.R_nw (Kd.R_mono HO386.out (fun _ hk => trivial))⟩, ⟨by exact Kd.R_nw (Kd.R_mono HO390.out (fun _ hk => ⟨hk.1.2, ⟨hk.1.1.1.1, ⟨hk.1.1.2, hk.2⟩⟩⟩))⟩, ⟨by exact blk_nw BK346.out⟩, ⟨by exact blk_nw BK347.out⟩, ⟨by exact blk_nw BK373.out⟩, ⟨by exact blk_nw BK382.out⟩, ⟨by exact blk_nw BK387.out⟩, ⟨by exact blk_nw BK399.out⟩, ⟨by exact bel0⟩⟩
    ·replace c81 := Bool.eq_false_iff.mpr c81
     subst c81
     rw [if_neg (show ¬ (false = true) by decide)] at H
     have H' := Aside0.mk H
     clear H
     go_wp2
     go_meet
     case rel => exact ⟨_, (true), (by first | rfl | (simp; done) | (simp [*]; done)), H', ⟨by first | omega | exact Nat.le_refl _⟩, ⟨by exact Kd.R_nw (Kd.R_mono HO372.out (fun _ hk => ⟨hk.2, ⟨hk.1.1.1.2, ⟨hk.1.1.2, hk.1.2⟩⟩⟩))⟩, ⟨by exact Kd.R_nw (Kd.R_mono HO398.out (fun _ hk => ⟨hk.1.2, ⟨hk.1.1.2, ⟨hk.2, hk.1.1.1.1⟩⟩⟩))⟩, ⟨by exact Kd.R_nw (Kd.R_mono HO364.out (fun _ hk => ⟨hk.1.1.1.2, ⟨hk.2, ⟨hk.1.1.2, hk.1.2⟩⟩⟩))⟩, ⟨by exact Kd.R_nw (Kd.R_mono HO376.out (fun _ hk => ⟨hk.1.1.2, ⟨hk.2, ⟨hk.1.1.1.2, hk.1.2⟩⟩⟩))⟩, ⟨by exact Kd.R_nw (Kd.R_mono HO386.out (fun _ hk => trivial))⟩, ⟨by exact Kd.R_nw (Kd.R_mono HO390.out (fun _ hk => ⟨hk.1.2, ⟨hk.1.1.1.1, ⟨hk.1.1.2, hk.2⟩⟩⟩))⟩, ⟨by exact blk_nw BK346.out⟩, ⟨by exact blk_nw BK347.out⟩, ⟨by exact blk_nw BK373.out⟩, ⟨by exact blk_nw BK382.out⟩, ⟨by exact blk_nw BK387.out⟩, ⟨by exact blk_nw BK399.out⟩, ⟨by exact bel0⟩⟩
   case rest =>
    clear HC22; try clear c1; try clear c2; try clear p2; try clear c3; try clear c4; try clear c5; try clear c6; try clear c7; try clear c8; try clear c25; try clear c38; try clear c39; try clear c44; try clear c45; try clear c46; try clear c48; try clear c52; try clear c53; try clear c54; try clear c55; try clear c57; try clear c58; try clear c59; try clear c60; try clear c62; try clear c63; try clear c64; try clear c65; try clear c66; try clear c69; try clear c70; try clear c71; try clear c72; try clear c73; try clear c75; try clear c76; try clear c77; try clear c78; try clear c81; try clear hcz40_0; try clear hcz40_1; try clear hcz40_2; try clear hcz40_3; try clear hcz40_4; try clear hcz40_5; try clear hcz47_0; try clear hcz47_1; try clear hcz47_2; try clear hcz47_3; try clear hcz47_4; try clear hcz47_5; try clear hcz49_0; try clear hcz49_1; try clear hcz56_0; try clear hcz56_1; try clear hcz58_0; try clear hcz58_1; try clear hcz58_2; try clear hcz58_3; try clear hcz58_4; try clear hcz58_5; try clear hcz67_0; try clear hcz67_1; try clear hcz67_2; try clear hcz67_3; try clear hcz67_4; try clear hcz67_5; try clear hcz74_0; try clear hcz74_1; try clear hcz74_2; try clear hcz74_3; try clear hcz74_4; try clear hcz74_5; try clear hcz79_0; try clear hcz79_1; try clear hcz79_2; try clear hcz79_3; try clear hcz79_4; try clear hcz79_5; try clear hfz40_0; try clear hfz40_1; try clear hfz40_2; try clear hfz40_3; try clear hfz40_4; try clear hfz40_5; try clear hfz47_0; try clear hfz47_1; try clear hfz47_2; try clear hfz47_3; try clear hfz47_4; try clear hfz47_5; try clear hfz49_0; try clear hfz49_1; try clear hfz56_0; try clear hfz56_1; try clear hfz58_0; try clear hfz58_1; try clear hfz58_2; try clear hfz58_3; try clear hfz58_4; try clear hfz58_5; try clear hfz67_0; try clear hfz67_1; try clear hfz67_2; try clear hfz67_3; try clear hfz67_4; try clear hfz67_5; try clear hfz74_0; try clear hfz74_1; try clear hfz74_2; try clear hfz74_3; try clear hfz74_4; try clear hfz74_5; try clear hfz79_0; try clear hfz79_1; try clear hfz79_2; try clear hfz79_3; try clear hfz79_4; try clear hfz79_5
    obtain ⟨kq, x58_21, rfl, HA, HJ21, HO_9, HO_13, HO_374000, HO_383000, HO_388001, HO_400000, BK346, BK347, BK373, BK382, BK387, BK399, HB⟩ := hcut
    cases kq with
    | zero => exact absurd HA.out (by simp [laws_FnExactHelpers.j0])
    | succ kj21 =>
     have H := HA.out; clear HA
     simp only [laws_FnExactHelpers.j0] at H
     by_cases c85 : x58_21 = true
     ·subst c85; rw [if_pos rfl] at H
      obtain rfl := Option.some.inj H
      go_wp2
      go_ret
      exact ⟨by first | rfl | (simp [errW_none, errW_some] <;> rfl) | (simp [*, errW_none, errW_some] <;> rfl), by exact bel0⟩
     ·replace c85 := Bool.eq_false_iff.mpr c85
      subst c85
      rw [if_neg (show ¬ (false = true) by decide)] at H
      replace H := Option.bind_eq_some_iff.mp H
      obtain ⟨⟨t402, t405, t406, t407, t408, t409⟩, A860, H⟩ := H
      replace H : ((laws_eqProber.f kj21 t374 t377 t378 t379 t380 t381 t402 t405 t406 t407 t408 t409).bind fun t410 => (if t410 = true then ((laws_toTable.f kj21 a1_0 l1_1).bind fun bt411 => ((laws_eqTable.f kj21 t383 t384 bt411.1 bt411.2).bind fun t415 => (if t415 = true then ((laws_markProber.f kj21 t374 t377 t378 t379 t380 t381 1).bind fun bt416 => ((laws_markTable.f kj21 t383 t384 bt416.1).bind fun bt418 => (if bt418.1 < 0 then (laws_FnExactHelpers.j1 kj21 a2 t370 t396 true l0_0 a0_1 a0_2 a0_3 a0_4 a0_5 a1_0 l1_1 t362 t365 t366 t367 t368 t369 t388 t391 t392 t393 t394 t395) else ((laws_eqProber.f kj21 t388 t391 t392 t393 t394 t395 t362 t365 t366 t367 t368 t369).bind fun t420 => (if t420 = true then ((laws_eqIntS.f kj21 t396 t370).bind fun t421 => (laws_FnExactHelpers.j1 kj21 a2 t370 t396 (!t421) l0_0 a0_1 a0_2 a0_3 a0_4 a0_5 a1_0 l1_1 t362 t365 t366 t367 t368 t369 t388 t391 t392 t393 t394 t395)) else (laws_FnExactHelpers.j1 kj21 a2 t370 t396 true l0_0 a0_1 a0_2 a0_3 a0_4 a0_5 a1_0 l1_1 t362 t365 t366 t367 t368 t369 t388 t391 t392 t393 t394 t395)))))) else (some false)))) else (some false))) = some r := H
      have A86 := Aside0.mk A860; clear A860; replace H := Option.bind_eq_some_iff.mp H; obtain ⟨t410, A870, H⟩ := H; have A87 := Aside0.mk A870; clear A870
      replace H := Aside0.mk H
      try go_wp2
      have n_ := an (Kd.R_drew HO_9.out) (an (Kd.R_drew HO_13.out) (an (Kd.R_drew HO_374000.out) (an (Kd.R_drew HO_383000.out) (an (Kd.R_drew HO_388001.out) (an (Kd.R_drew HO_400000.out) (an (blk_drew BK346.out) (an (blk_drew BK347.out) (an (blk_drew BK373.out) (an (blk_drew BK382.out) (an (blk_drew BK387.out) (an (blk_drew BK399.out) (an (below_drew1 HB.out) (trivial)))))))))))))
      clear HO_9 HO_13 HO_374000 HO_383000 HO_388001 HO_400000 BK346 BK347 BK373 BK382 BK387 BK399 HB
      obtain ⟨HO_9, HO_13, HO_374000, HO_383000, HO_388001, HO_400000, BK346, BK347, BK373, BK382, BK387, BK399, HB, -⟩ := n_
      refine start_ (n := 5) (S := fun w' => w'.cell? ⟨gb382, 0, none⟩ = some (.slice Ao43 t374.length co43) ∧ w'.cell? ⟨gb382, 1, none⟩ = some (.int .i64 t377) ∧ w'.cell? ⟨gb382, 2, none⟩ = some (.int .i64 t378) ∧ w'.cell? ⟨gb382, 3, none⟩ = some (.int .i64 t379) ∧ w'.cell? ⟨gb382, 4, none⟩ = some (.int .i64 t380) ∧ w'.cell? ⟨gb382, 5, none⟩ = some (.int .i64 t381) ∧ w'.cell? ⟨gb346, 0, none⟩ = some (.slice A0_0 l0_0.length c0_0) ∧ w'.cell? ⟨gb346, 1, none⟩ = some (.int .i64 a0_1) ∧ w'.cell? ⟨gb346, 2, none⟩ = some (.int .i64 a0_2) ∧ w'.cell? ⟨gb346, 3, none⟩ = some (.int .i64 a0_3) ∧ w'.cell? ⟨gb346, 4, none⟩ = some (.int .i64 a0_4) ∧ w'.cell? ⟨gb346, 5, none⟩ = some (.int .i64 a0_5)) (ds := []) #[false, false, false, false, false] (by kernel_rfl) rfl rfl ⟨(blk_cell BK382.out 0).trans rfl, (blk_cell BK382.out 1).trans rfl, (blk_cell BK382.out 2).trans rfl, (blk_cell BK382.out 3).trans rfl, (blk_cell BK382.out 4).trans rfl, (blk_cell BK382.out 5).trans rfl, (blk_cell BK346.out 0).trans rfl, (blk_cell BK346.out 1).trans rfl, (blk_cell BK346.out 2).trans rfl, (blk_cell BK346.out 3).trans rfl, (blk_cell BK346.out 4).trans rfl, (blk_cell BK346.out 5).trans rfl⟩ (fun hHeld => ?_)
      generalize wc.drew = w88 at HO_9 HO_13 HO_374000 HO_383000 HO_388001 HO_400000 BK346 BK347 BK373 BK382 BK387 BK399 HB hHeld ⊢
      refine take_ (i := 0) (N := some 59) (v := ?_) (a' := ?_) #[true, false, false, false, false] rfl rfl (by kernel_rfl) (fun _ _ _ h => h) (Or.inl ⟨by rfl, ?_⟩) hHeld ?_ ?_
      rotate_left
      ·rintro w' ⟨s0, s1, s2, s3, s4, s5, s6, s7, s8, s9, s10, s11⟩
       go_simp
       with_reducible rfl
      rotate_left; · simp only [Act.put, List.setIfInBounds_toArray, List.set_cons_zero, List.set_cons_succ, i64_w, i32_w]; rfl
      refine take_ (i := 1) (N := some 60) (v := ?_) (a' := ?_) #[true, true, false, false, false] rfl rfl (by kernel_rfl) (fun _ _ _ h => h) (Or.inl ⟨by rfl, ?_⟩) hHeld ?_ ?_
      rotate_left
      ·rintro w' ⟨s0, s1, s2, s3, s4, s5, s6, s7, s8, s9, s10, s11⟩
       go_simp
       with_reducible rfl
      rotate_left; · simp only [Act.put, List.setIfInBounds_toArray, List.set_cons_zero, List.set_cons_succ, i64_w, i32_w]; rfl
      refine one_ (i := 2) (N := some 61) #[true, true, true, false, false] rfl rfl (by kernel_rfl) (by decide) (fun K hK => ?_)
      refine goes_ Try.func58 (by kernel_rfl) rfl #[.agg #[.slice A0_0 l0_0.length c0_0, .int .i64 a0_1, .int .i64 a0_2, .int .i64 a0_3, .int .i64 a0_4, .int .i64 a0_5]] (by rfl) rfl rfl (by (try simp only [List.map_toArray, List.map_cons, List.map_nil]); first | done | rfl | (simp only [List.length_drop, List.length_take]; rfl)) ?_
      with_reducible refine (laws_toProber.calls kj21 _ _ l0_0 a0_1 a0_2 a0_3 a0_4 a0_5 t402 t405 t406 t407 t408 t409 _ ?side1 ?side2 A86.out).mono ?_
      (case side1 => repeat (first | exact (Kd.C_below HR0_0.out HB.out) | (with_reducible refine Kd.C_alloc ?_ _) | (with_reducible refine Kd.C_drewN ?_ _) | (with_reducible refine Kd.C_drew ?_)))
      (case side2 => exact HC0_0.out)
      rintro e w89 ⟨v403, rfl, ho0, hb⟩
      refine ⟨_, rfl, ?_⟩
      have n_ := an (Kd.R_elder' (by exact Kd.R_nw HO_9.out) (Kd.R_base ho0) hb) (an (Kd.R_elder' (by exact Kd.R_nw HO_13.out) (Kd.R_base ho0) hb) (an (Kd.R_elder' (by exact Kd.R_nw HO_374000.out) (Kd.R_base ho0) hb) (an (Kd.R_elder' (by exact Kd.R_nw HO_383000.out) (Kd.R_base ho0) hb) (an (Kd.R_below (by exact Kd.R_nw HO_388001.out) hb) (an (Kd.R_elder' (by exact Kd.R_nw HO_400000.out) (Kd.R_base ho0) hb) (an (Kd.R_lower (Kd.R_new' (Kd.R_new' (Kd.R_new' (Kd.R_new' (Kd.R_new' ho0 (Kd.R_lt (by exact Kd.R_nw HO_9.out))) (Kd.R_lt (by exact Kd.R_nw HO_13.out))) (Kd.R_lt (by exact Kd.R_nw HO_374000.out))) (Kd.R_lt (by exact Kd.R_nw HO_383000.out))) (Kd.R_lt (by exact Kd.R_nw HO_400000.out))) (below_size (by exact bel0))) (an (blk_below (blk_nw BK346.out) hb) (an (blk_below (blk_nw BK347.out) hb) (an (blk_below (blk_nw BK373.out) hb) (an (blk_below (blk_nw BK382.out) hb) (an (blk_below (blk_nw BK387.out) hb) (an (blk_below (blk_nw BK399.out) hb) (an (below_step (by exact bel0) hb) (trivial))))))))))))))
      clear HO_9 HO_13 HO_374000 HO_383000 HO_388001 HO_400000 BK346 BK347 BK373 BK382 BK387 BK399 HB
      obtain ⟨HO_9, HO_13, HO_374000, HO_383000, HO_388001, HO_400000, HO404, BK346, BK347, BK373, BK382, BK387, BK399, HB, -⟩ := n_
      (try clear hb); (try clear hb2); (try clear hk); (try clear hi); (try clear ho0)
      obtain ⟨Ao90, co90, eo90⟩ := Kd.R_slice HO404.out
      (first | subst eo90 | (injection eo90 with f1_ f2_ f3_; have f4_ := f1_.symm; have f5_ := f3_.symm; clear f1_ f2_ f3_; subst f4_; subst f5_))
      refine hK.out _ _ ⟨(blk_cell BK382.out 0).trans rfl, (blk_cell BK382.out 1).trans rfl, (blk_cell BK382.out 2).trans rfl, (blk_cell BK382.out 3).trans rfl, (blk_cell BK382.out 4).trans rfl, (blk_cell BK382.out 5).trans rfl, (blk_cell BK346.out 0).trans rfl, (blk_cell BK346.out 1).trans rfl, (blk_cell BK346.out 2).trans rfl, (blk_cell BK346.out 3).trans rfl, (blk_cell BK346.out 4).trans rfl, (blk_cell BK346.out 5).trans rfl⟩ (fun hHeld => ?_)
      clear hK K
      refine norm_ (a' := ?_) ?_ ?_
      rotate_left
      ·show Act.put _ (some 61) _ = _
       simp only [Act.put, List.setIfInBounds_toArray, List.set_cons_zero, List.set_cons_succ, i64_w, i32_w]
       rfl
      refine one_ (i := 3) (N := some 62) #[true, true, true, true, false] rfl rfl (by kernel_rfl) (by decide) (fun K hK => ?_)
      refine goes_ Try.func60 (by kernel_rfl) rfl #[.agg #[.slice Ao43 t374.length co43, .int .i64 t377, .int .i64 t378, .int .i64 t379, .int .i64 t380, .int .i64 t381], .agg #[.slice Ao90 t402.length co90, .int .i64 t405, .int .i64 t406, .int .i64 t407, .int .i64 t408, .int .i64 t409]] (by rfl) rfl rfl (by (try simp only [List.map_toArray, List.map_cons, List.map_nil]); first | done | rfl | (simp only [List.length_drop, List.length_take]; rfl)) ?_
      with_reducible refine (laws_eqProber.calls kj21 _ _ t374 t377 t378 t379 t380 t381 _ _ t402 t405 t406 t407 t408 t409 t410 _ ?side1 ?side2 ?side3 ?side4 A87.out).mono ?_
      (case side1 => repeat (first | exact (Kd.R_reads' HO_383000.out).2.2 | (with_reducible refine Kd.C_alloc ?_ _) | (with_reducible refine Kd.C_drewN ?_ _) | (with_reducible refine Kd.C_drew ?_)))
      (case side2 => exact (Kd.R_reads' HO_383000.out).2.1)
      (case side3 => repeat (first | exact (Kd.R_reads' HO404.out).2.2 | (with_reducible refine Kd.C_alloc ?_ _) | (with_reducible refine Kd.C_drewN ?_ _) | (with_reducible refine Kd.C_drew ?_)))
      (case side4 => exact (Kd.R_reads' HO404.out).2.1)
      rintro e w91 ⟨rfl, hb⟩
      refine ⟨_, rfl, ?_⟩
      have n_ := an (Kd.R_below (by exact Kd.R_nw HO_9.out) hb) (an (Kd.R_below (by exact Kd.R_nw HO_13.out) hb) (an (Kd.R_below (by exact Kd.R_nw HO_374000.out) hb) (an (Kd.R_below (by exact Kd.R_nw HO_383000.out) hb) (an (Kd.R_below (by exact Kd.R_nw HO_388001.out) hb) (an (Kd.R_below (by exact Kd.R_nw HO_400000.out) hb) (an (Kd.R_below (by exact Kd.R_nw HO404.out) hb) (an (blk_below (blk_nw BK346.out) hb) (an (blk_below (blk_nw BK347.out) hb) (an (blk_below (blk_nw BK373.out) hb) (an (blk_below (blk_nw BK382.out) hb) (an (blk_below (blk_nw BK387.out) hb) (an (blk_below (blk_nw BK399.out) hb) (an (below_step (by exact bel0) hb) (trivial))))))))))))))
      clear HO_9 HO_13 HO_374000 HO_383000 HO_388001 HO_400000 HO404 BK346 BK347 BK373 BK382 BK387 BK399 HB
      obtain ⟨HO_9, HO_13, HO_374000, HO_383000, HO_388001, HO_400000, HO404, BK346, BK347, BK373, BK382, BK387, BK399, HB, -⟩ := n_
      (try clear hb); (try clear hb2); (try clear hk); (try clear hi)
      refine hK.out _ _ ⟨(blk_cell BK382.out 0).trans rfl, (blk_cell BK382.out 1).trans rfl, (blk_cell BK382.out 2).trans rfl, (blk_cell BK382.out 3).trans rfl, (blk_cell BK382.out 4).trans rfl, (blk_cell BK382.out 5).trans rfl, (blk_cell BK346.out 0).trans rfl, (blk_cell BK346.out 1).trans rfl, (blk_cell BK346.out 2).trans rfl, (blk_cell BK346.out 3).trans rfl, (blk_cell BK346.out 4).trans rfl, (blk_cell BK346.out 5).trans rfl⟩ (fun hHeld => ?_)
      clear hK K
      refine norm_ (a' := ?_) ?_ ?_
      rotate_left
      ·show Act.put _ (some 62) _ = _
       simp only [Act.put, List.setIfInBounds_toArray, List.set_cons_zero, List.set_cons_succ, i64_w, i32_w]
       rfl
      refine pure_ (i := 4) (N := some 63) (v := ?_) (a' := ?_) #[true, true, true, true, true] rfl rfl (by kernel_rfl) (fun _ _ _ h => h) (Or.inl ⟨by rfl, ?_⟩) ?_ ?_
      rotate_left; · intro w'; go_simp; with_reducible rfl
      rotate_left; · simp only [Act.put, List.setIfInBounds_toArray, List.set_cons_zero, List.set_cons_succ, i64_w, i32_w]; rfl
      refine done_ (by kernel_rfl) ?_
      replace H := H.out
      by_cases c92 : t410 = true
      ·subst c92; rw [if_pos rfl] at H; replace H := Option.bind_eq_some_iff.mp H
       obtain ⟨⟨t411, t412⟩, A930, H⟩ := H
       replace H : ((laws_eqTable.f kj21 t383 t384 t411 t412).bind fun t415 => (if t415 = true then ((laws_markProber.f kj21 t374 t377 t378 t379 t380 t381 1).bind fun bt416 => ((laws_markTable.f kj21 t383 t384 bt416.1).bind fun bt418 => (if bt418.1 < 0 then (laws_FnExactHelpers.j1 kj21 a2 t370 t396 true l0_0 a0_1 a0_2 a0_3 a0_4 a0_5 a1_0 l1_1 t362 t365 t366 t367 t368 t369 t388 t391 t392 t393 t394 t395) else ((laws_eqProber.f kj21 t388 t391 t392 t393 t394 t395 t362 t365 t366 t367 t368 t369).bind fun t420 => (if t420 = true then ((laws_eqIntS.f kj21 t396 t370).bind fun t421 => (laws_FnExactHelpers.j1 kj21 a2 t370 t396 (!t421) l0_0 a0_1 a0_2 a0_3 a0_4 a0_5 a1_0 l1_1 t362 t365 t366 t367 t368 t369 t388 t391 t392 t393 t394 t395)) else (laws_FnExactHelpers.j1 kj21 a2 t370 t396 true l0_0 a0_1 a0_2 a0_3 a0_4 a0_5 a1_0 l1_1 t362 t365 t366 t367 t368 t369 t388 t391 t392 t393 t394 t395)))))) else (some false))) = some r := H
       have A93 := Aside0.mk A930; clear A930; replace H := Option.bind_eq_some_iff.mp H; obtain ⟨t415, A940, H⟩ := H; have A94 := Aside0.mk A940; clear A940
       replace H := Aside0.mk H
       try go_wp2
       have n_ := an (Kd.R_drew HO_9.out) (an (Kd.R_drew HO_13.out) (an (Kd.R_drew HO_374000.out) (an (Kd.R_drew HO_383000.out) (an (Kd.R_drew HO_388001.out) (an (Kd.R_drew HO_400000.out) (an (Kd.R_drew HO404.out) (an (blk_drew BK346.out) (an (blk_drew BK347.out) (an (blk_drew BK373.out) (an (blk_drew BK382.out) (an (blk_drew BK387.out) (an (blk_drew BK399.out) (an (below_drew1 HB.out) (trivial))))))))))))))
       clear HO_9 HO_13 HO_374000 HO_383000 HO_388001 HO_400000 HO404 BK346 BK347 BK373 BK382 BK387 BK399 HB
       obtain ⟨HO_9, HO_13, HO_374000, HO_383000, HO_388001, HO_400000, HO404, BK346, BK347, BK373, BK382, BK387, BK399, HB, -⟩ := n_
       refine start_ (n := 5) (S := fun w' => w'.cell? ⟨gb387, 0, none⟩ = some (.int .i64 t383) ∧ w'.cell? ⟨gb387, 1, none⟩ = some (.slice Ao57 t384.length co57) ∧ w'.cell? ⟨gb347, 0, none⟩ = some (.int .i64 a1_0) ∧ w'.cell? ⟨gb347, 1, none⟩ = some (.slice A1_1 l1_1.length c1_1)) (ds := []) #[false, false, false, false, false] (by kernel_rfl) rfl rfl ⟨(blk_cell BK387.out 0).trans rfl, (blk_cell BK387.out 1).trans rfl, (blk_cell BK347.out 0).trans rfl, (blk_cell BK347.out 1).trans rfl⟩ (fun hHeld => ?_)
       generalize w91.drew = w95 at HO_9 HO_13 HO_374000 HO_383000 HO_388001 HO_400000 HO404 BK346 BK347 BK373 BK382 BK387 BK399 HB hHeld ⊢
       refine take_ (i := 0) (N := some 64) (v := ?_) (a' := ?_) #[true, false, false, false, false] rfl rfl (by kernel_rfl) (fun _ _ _ h => h) (Or.inl ⟨by rfl, ?_⟩) hHeld ?_ ?_
       rotate_left
       ·rintro w' ⟨s0, s1, s2, s3⟩
        go_simp
        with_reducible rfl
       rotate_left; · simp only [Act.put, List.setIfInBounds_toArray, List.set_cons_zero, List.set_cons_succ, i64_w, i32_w]; rfl
       refine take_ (i := 1) (N := some 65) (v := ?_) (a' := ?_) #[true, true, false, false, false] rfl rfl (by kernel_rfl) (fun _ _ _ h => h) (Or.inl ⟨by rfl, ?_⟩) hHeld ?_ ?_
       rotate_left
       ·rintro w' ⟨s0, s1, s2, s3⟩
        go_simp
        with_reducible rfl
       rotate_left; · simp only [Act.put, List.setIfInBounds_toArray, List.set_cons_zero, List.set_cons_succ, i64_w, i32_w]; rfl
       refine one_ (i := 2) (N := some 66) #[true, true, true, false, false] rfl rfl (by kernel_rfl) (by decide) (fun K hK => ?_)
       refine goes_ Try.func25 (by kernel_rfl) rfl #[.agg #[.int .i64 a1_0, .slice A1_1 l1_1.length c1_1]] (by rfl) rfl rfl (by (try simp only [List.map_toArray, List.map_cons, List.map_nil]); first | done | rfl | (simp only [List.length_drop, List.length_take]; rfl)) ?_
       with_reducible refine (laws_toTable.calls kj21 a1_0 _ _ l1_1 t411 t412 _ ?side1 ?side2 A93.out).mono ?_
       (case side1 => repeat (first | exact (Kd.C_below HR1_1.out HB.out) | (with_reducible refine Kd.C_alloc ?_ _) | (with_reducible refine Kd.C_drewN ?_ _) | (with_reducible refine Kd.C_drew ?_)))
       (case side2 => exact HC1_1.out)
       rintro e w96 ⟨v413, rfl, ho0, hb⟩
       refine ⟨_, rfl, ?_⟩
       have n_ := an (Kd.R_below (by exact Kd.R_nw HO_9.out) hb) (an (Kd.R_below (by exact Kd.R_nw HO_13.out) hb) (an (Kd.R_below (by exact Kd.R_nw HO_374000.out) hb) (an (Kd.R_below (by exact Kd.R_nw HO_383000.out) hb) (an (Kd.R_elder' (by exact Kd.R_nw HO_388001.out) (Kd.R_base ho0) hb) (an (Kd.R_below (by exact Kd.R_nw HO_400000.out) hb) (an (Kd.R_below (by exact Kd.R_nw HO404.out) hb) (an (Kd.R_lower (Kd.R_new' ho0 (Kd.R_lt (by exact Kd.R_nw HO_388001.out))) (below_size (by exact bel0))) (an (blk_below (blk_nw BK346.out) hb) (an (blk_below (blk_nw BK347.out) hb) (an (blk_below (blk_nw BK373.out) hb) (an (blk_below (blk_nw BK382.out) hb) (an (blk_below (blk_nw BK387.out) hb) (an (blk_below (blk_nw BK399.out) hb) (an (below_step (by exact bel0) hb) (trivial)))))))))))))))
       clear HO_9 HO_13 HO_374000 HO_383000 HO_388001 HO_400000 HO404 BK346 BK347 BK373 BK382 BK387 BK399 HB
       obtain ⟨HO_9, HO_13, HO_374000, HO_383000, HO_388001, HO_400000, HO404, HO414, BK346, BK347, BK373, BK382, BK387, BK399, HB, -⟩ := n_
       (try clear hb); (try clear hb2); (try clear hk); (try clear hi); (try clear ho0)
       obtain ⟨Ao97, co97, eo97⟩ := Kd.R_slice HO414.out
       (first | subst eo97 | (injection eo97 with f1_ f2_ f3_; have f4_ := f1_.symm; have f5_ := f3_.symm; clear f1_ f2_ f3_; subst f4_; subst f5_))
       refine hK.out _ _ ⟨(blk_cell BK387.out 0).trans rfl, (blk_cell BK387.out 1).trans rfl, (blk_cell BK347.out 0).trans rfl, (blk_cell BK347.out 1).trans rfl⟩ (fun hHeld => ?_)
       clear hK K
       refine norm_ (a' := ?_) ?_ ?_
       rotate_left
       ·show Act.put _ (some 66) _ = _
        simp only [Act.put, List.setIfInBounds_toArray, List.set_cons_zero, List.set_cons_succ, i64_w, i32_w]
        rfl
       refine one_ (i := 3) (N := some 67) #[true, true, true, true, false] rfl rfl (by kernel_rfl) (by decide) (fun K hK => ?_)
       refine goes_ Try.func27 (by kernel_rfl) rfl #[.agg #[.int .i64 t383, .slice Ao57 t384.length co57], .agg #[.int .i64 t411, .slice Ao97 t412.length co97]] (by rfl) rfl rfl (by (try simp only [List.map_toArray, List.map_cons, List.map_nil]); first | done | rfl | (simp only [List.length_drop, List.length_take]; rfl)) ?_
       with_reducible refine (laws_eqTable.calls kj21 t383 _ _ t384 t411 _ _ t412 t415 _ ?side1 ?side2 ?side3 ?side4 A94.out).mono ?_
       (case side1 => repeat (first | exact (Kd.R_reads' HO_388001.out).2.2 | (with_reducible refine Kd.C_alloc ?_ _) | (with_reducible refine Kd.C_drewN ?_ _) | (with_reducible refine Kd.C_drew ?_)))
       (case side2 => exact (Kd.R_reads' HO_388001.out).2.1)
       (case side3 => repeat (first | exact (Kd.R_reads' HO414.out).2.2 | (with_reducible refine Kd.C_alloc ?_ _) | (with_reducible refine Kd.C_drewN ?_ _) | (with_reducible refine Kd.C_drew ?_)))
       (case side4 => exact (Kd.R_reads' HO414.out).2.1)
       rintro e w98 ⟨rfl, hb⟩
       refine ⟨_, rfl, ?_⟩
       have n_ := an (Kd.R_below (by exact Kd.R_nw HO_9.out) hb) (an (Kd.R_below (by exact Kd.R_nw HO_13.out) hb) (an (Kd.R_below (by exact Kd.R_nw HO_374000.out) hb) (an (Kd.R_below (by exact Kd.R_nw HO_383000.out) hb) (an (Kd.R_below (by exact Kd.R_nw HO_388001.out) hb) (an (Kd.R_below (by exact Kd.R_nw HO_400000.out) hb) (an (Kd.R_below (by exact Kd.R_nw HO404.out) hb) (an (Kd.R_below (by exact Kd.R_nw HO414.out) hb) (an (blk_below (blk_nw BK346.out) hb) (an (blk_below (blk_nw BK347.out) hb) (an (blk_below (blk_nw BK373.out) hb) (an (blk_below (blk_nw BK382.out) hb) (an (blk_below (blk_nw BK387.out) hb) (an (blk_below (blk_nw BK399.out) hb) (an (below_step (by exact bel0) hb) (trivial)))))))))))))))
       clear HO_9 HO_13 HO_374000 HO_383000 HO_388001 HO_400000 HO404 HO414 BK346 BK347 BK373 BK382 BK387 BK399 HB
       obtain ⟨HO_9, HO_13, HO_374000, HO_383000, HO_388001, HO_400000, HO404, HO414, BK346, BK347, BK373, BK382, BK387, BK399, HB, -⟩ := n_
       (try clear hb); (try clear hb2); (try clear hk); (try clear hi)
       refine hK.out _ _ ⟨(blk_cell BK387.out 0).trans rfl, (blk_cell BK387.out 1).trans rfl, (blk_cell BK347.out 0).trans rfl, (blk_cell BK347.out 1).trans rfl⟩ (fun hHeld => ?_)
       clear hK K
       refine norm_ (a' := ?_) ?_ ?_
       rotate_left
       ·show Act.put _ (some 67) _ = _
        simp only [Act.put, List.setIfInBounds_toArray, List.set_cons_zero, List.set_cons_succ, i64_w, i32_w]
        rfl
       refine pure_ (i := 4) (N := some 68) (v := ?_) (a' := ?_) #[true, true, true, true, true] rfl rfl (by kernel_rfl) (fun _ _ _ h => h) (Or.inl ⟨by rfl, ?_⟩) ?_ ?_
       rotate_left; · intro w'; go_simp; with_reducible rfl
       rotate_left; · simp only [Act.put, List.setIfInBounds_toArray, List.set_cons_zero, List.set_cons_succ, i64_w, i32_w]; rfl
       refine done_ (by kernel_rfl) ?_
       replace H := H.out
       by_cases c99 : t415 = true
       ·subst c99; rw [if_pos rfl] at H; replace H := Option.bind_eq_some_iff.mp H
        obtain ⟨⟨t416, t417⟩, A1000, H⟩ := H
        replace H : ((laws_markTable.f kj21 t383 t384 t416).bind fun bt418 => (if bt418.1 < 0 then (laws_FnExactHelpers.j1 kj21 a2 t370 t396 true l0_0 a0_1 a0_2 a0_3 a0_4 a0_5 a1_0 l1_1 t362 t365 t366 t367 t368 t369 t388 t391 t392 t393 t394 t395) else ((laws_eqProber.f kj21 t388 t391 t392 t393 t394 t395 t362 t365 t366 t367 t368 t369).bind fun t420 => (if t420 = true then ((laws_eqIntS.f kj21 t396 t370).bind fun t421 => (laws_FnExactHelpers.j1 kj21 a2 t370 t396 (!t421) l0_0 a0_1 a0_2 a0_3 a0_4 a0_5 a1_0 l1_1 t362 t365 t366 t367 t368 t369 t388 t391 t392 t393 t394 t395)) else (laws_FnExactHelpers.j1 kj21 a2 t370 t396 true l0_0 a0_1 a0_2 a0_3 a0_4 a0_5 a1_0 l1_1 t362 t365 t366 t367 t368 t369 t388 t391 t392 t393 t394 t395))))) = some r := H
        have A100 := Aside0.mk A1000; clear A1000; replace H := Option.bind_eq_some_iff.mp H
        obtain ⟨⟨t418, t419⟩, A1010, H⟩ := H
        replace H : (if t418 < 0 then (laws_FnExactHelpers.j1 kj21 a2 t370 t396 true l0_0 a0_1 a0_2 a0_3 a0_4 a0_5 a1_0 l1_1 t362 t365 t366 t367 t368 t369 t388 t391 t392 t393 t394 t395) else ((laws_eqProber.f kj21 t388 t391 t392 t393 t394 t395 t362 t365 t366 t367 t368 t369).bind fun t420 => (if t420 = true then ((laws_eqIntS.f kj21 t396 t370).bind fun t421 => (laws_FnExactHelpers.j1 kj21 a2 t370 t396 (!t421) l0_0 a0_1 a0_2 a0_3 a0_4 a0_5 a1_0 l1_1 t362 t365 t366 t367 t368 t369 t388 t391 t392 t393 t394 t395)) else (laws_FnExactHelpers.j1 kj21 a2 t370 t396 true l0_0 a0_1 a0_2 a0_3 a0_4 a0_5 a1_0 l1_1 t362 t365 t366 t367 t368 t369 t388 t391 t392 t393 t394 t395)))) = some r := H
        have A101 := Aside0.mk A1010; clear A1010; have HC102 := Aside0.mk H; clear H; have hnb103 := NB382_346.out; have hnc103 := NB346_382.out; have hnb104 := NB382_347.out; have hnc104 := NB347_382.out; have hnb105 := NB382_373.out; have hnc105 := NB373_382.out; have hnb106 := NB382_387.out; have hnc106 := NB387_382.out; have hnb107 := NB382_399.out; have hnc107 := NB399_382.out; obtain ⟨hcz108_0, hcz108_1, hcz108_2, hcz108_3, hcz108_4, hcz108_5⟩ := blkz6 BK382.out; have hfz108_0 := blkf BK382.out
        go_upto_region 21 with (first | ((with_reducible refine gate_callee (f := 61) rfl ?_); refine goesL_ (some 71) rfl rfl Try.func61 (by kernel_rfl) rfl #[.agg #[.slice Ao43 t374.length co43, .int .i64 t377, .int .i64 t378, .int .i64 t379, .int .i64 t380, .int .i64 t381], .int .i64 1] rfl (by (try simp only [List.map_toArray, List.map_cons, List.map_nil]); first | done | rfl | (simp only [List.length_drop, List.length_take]; rfl)) ?_; (with_reducible refine (laws_markProber.calls kj21 (fun k_ => some k_ = (.slice Ao43 t374.length co43 : Value).ownBlock) (.slice Ao43 t374.length co43) t374 t377 t378 t379 t380 t381 1 t416 t417 w _ ?side1 ?side2 A100.out).mono ?_); (case side1 => exact bel0); (case side2 => exact Kd.R_tight rfl HO_383000.out); rintro e w109 ⟨rfl, hy0, hb, hkp⟩; refine ⟨_, rfl, ?_⟩; have n_ := an (Kd.R_mono (ok' := fun k_ => some k_ ≠ (v397 : Value).ownBlock ∧ some k_ ≠ (.slice Ao31 t362.length co31 : Value).ownBlock ∧ some k_ ≠ (.slice Ao43 t374.length co43 : Value).ownBlock ∧ some k_ ≠ (.slice Ao61 t388.length co61 : Value).ownBlock ∧ some k_ ≠ (.slice Ao90 t402.length co90 : Value).ownBlock) (Kd.R_keptB (HO_9.out) hkp (fun k_ hk_ hs_ => (hk_.1.2.2.1) hs_)) (fun k_ hk_ => ⟨hk_.1.1.1, hk_.1.1.2.1, hk_.1.1.2.2.1, hk_.1.1.2.2.2, hk_.1.2⟩)) (an (Kd.R_mono (ok' := fun k_ => some k_ ≠ (v371 : Value).ownBlock ∧ some k_ ≠ (.slice Ao31 t362.length co31 : Value).ownBlock ∧ some k_ ≠ (.slice Ao43 t374.length co43 : Value).ownBlock ∧ some k_ ≠ (.slice Ao61 t388.length co61 : Value).ownBlock ∧ some k_ ≠ (.slice Ao90 t402.length co90 : Value).ownBlock) (Kd.R_keptB (HO_13.out) hkp (fun k_ hk_ hs_ => (hk_.1.2.2.1) hs_)) (fun k_ hk_ => ⟨hk_.1.1.1, hk_.1.1.2.1, hk_.1.1.2.2.1, hk_.1.1.2.2.2, hk_.1.2⟩)) (an (Kd.R_mono (ok' := fun k_ => some k_ ≠ (v371 : Value).ownBlock ∧ some k_ ≠ (v397 : Value).ownBlock ∧ some k_ ≠ (.slice Ao43 t374.length co43 : Value).ownBlock ∧ some k_ ≠ (.slice Ao61 t388.length co61 : Value).ownBlock ∧ some k_ ≠ (.slice Ao90 t402.length co90 : Value).ownBlock) (Kd.R_keptB (HO_374000.out) hkp (fun k_ hk_ hs_ => (hk_.1.2.2.1) hs_)) (fun k_ hk_ => ⟨hk_.1.1.1, hk_.1.1.2.1, hk_.1.1.2.2.1, hk_.1.1.2.2.2, hk_.1.2⟩)) (an (Kd.R_reok rfl hy0 (fun k_ e_ => HO_383000.out.1 k_ e_)) (an (Kd.R_mono (ok' := fun k_ => some k_ ≠ (.slice Ao97 t412.length co97 : Value).ownBlock) (Kd.R_keptB ((Kd.R_apart' HO_388001.out (Kd.R_typed HO_383000.out) (by decide))) hkp (fun k_ hk_ hs_ => (hk_.2) hs_)) (fun k_ hk_ => hk_.1.1.2)) (an (Kd.R_mono (ok' := fun k_ => some k_ ≠ (v371 : Value).ownBlock ∧ some k_ ≠ (v397 : Value).ownBlock ∧ some k_ ≠ (.slice Ao31 t362.length co31 : Value).ownBlock ∧ some k_ ≠ (.slice Ao43 t374.length co43 : Value).ownBlock ∧ some k_ ≠ (.slice Ao90 t402.length co90 : Value).ownBlock) (Kd.R_keptB (HO_400000.out) hkp (fun k_ hk_ hs_ => (hk_.1.2.2.2) hs_)) (fun k_ hk_ => ⟨hk_.1.1.1, hk_.1.1.2.1, hk_.1.1.2.2.1, hk_.1.1.2.2.2, hk_.1.2⟩)) (an (blk_kept (by exact blk_nw BK346.out) hkp (fun hs_ => (fun e_ => (Kd.R_ne HO_383000.out BK346.out (by decide)) e_) hs_)) (an (blk_kept (by exact blk_nw BK347.out) hkp (fun hs_ => (fun e_ => (Kd.R_ne HO_383000.out BK347.out (by decide)) e_) hs_)) (an (blk_kept (by exact blk_nw BK373.out) hkp (fun hs_ => (fun e_ => (Kd.R_ne HO_383000.out BK373.out (by decide)) e_) hs_)) (an (blk_kept (by exact blk_nw BK382.out) hkp (fun hs_ => (fun e_ => (Kd.R_ne HO_383000.out BK382.out (by decide)) e_) hs_)) (an (blk_kept (by exact blk_nw BK387.out) hkp (fun hs_ => (fun e_ => (Kd.R_ne HO_383000.out BK387.out (by decide)) e_) hs_)) (an (blk_kept (by exact blk_nw BK399.out) hkp (fun hs_ => (fun e_ => (Kd.R_ne HO_383000.out BK399.out (by decide)) e_) hs_)) (an (Kd.R_mono (ok' := fun k_ => some k_ ≠ (v371 : Value).ownBlock ∧ some k_ ≠ (v397 : Value).ownBlock ∧ some k_ ≠ (.slice Ao31 t362.length co31 : Value).ownBlock ∧ some k_ ≠ (.slice Ao43 t374.length co43 : Value).ownBlock ∧ some k_ ≠ (.slice Ao61 t388.length co61 : Value).ownBlock) (Kd.R_keptB (HO404.out) hkp (fun k_ hk_ hs_ => (hk_.1.2) hs_)) (fun k_ hk_ => ⟨hk_.1.1.1.1.1.2, hk_.1.1.1.1.2, hk_.1.1.1.2, hk_.1.1.2, hk_.1.2⟩)) (an (Kd.R_mono (ok' := fun k_ => some k_ ≠ (.slice Ao57 t384.length co57 : Value).ownBlock) (Kd.R_keptB ((Kd.R_apart' HO414.out (Kd.R_typed HO_383000.out) (by decide))) hkp (fun k_ hk_ hs_ => (hk_.2) hs_)) (fun k_ hk_ => hk_.1.1.2)) (an (hb) (trivial))))))))))))))); clear HO_9 HO_13 HO_374000 HO_383000 HO_388001 HO_400000 BK346 BK347 BK373 BK382 BK387 BK399 HO404 HO414 HB; obtain ⟨HO_9, HO_13, HO_374000, HO_383000, HO_388001, HO_400000, BK346, BK347, BK373, BK382, BK387, BK399, HO404, HO414, HB, -⟩ := n_; (try clear hb); (try clear hkp); (try clear hy0); have hnb110 := NB387_346.out; have hnc110 := NB346_387.out; have hnb111 := NB387_347.out; have hnc111 := NB347_387.out; have hnb112 := NB387_373.out; have hnc112 := NB373_387.out; have hnb113 := NB387_399.out; have hnc113 := NB399_387.out; obtain ⟨hcz114_0, hcz114_1⟩ := blkz2 BK387.out; have hfz114_0 := blkf BK387.out) | ((with_reducible refine gate_callee (f := 28) rfl ?_); refine goesL_ (some 74) rfl rfl Try.func28 (by kernel_rfl) rfl #[.agg #[.int .i64 t383, .slice Ao57 t384.length co57], .int .i64 t416] rfl (by (try simp only [List.map_toArray, List.map_cons, List.map_nil]); first | done | rfl | (simp only [List.length_drop, List.length_take]; rfl)) ?_; (with_reducible refine (laws_markTable.calls kj21 t383 (fun k_ => some k_ = (.slice Ao57 t384.length co57 : Value).ownBlock) (.slice Ao57 t384.length co57) t384 t416 t418 t419 w _ ?side1 ?side2 A101.out).mono ?_); (case side1 => exact bel0); (case side2 => exact Kd.R_tight rfl HO_388001.out); rintro e w115 ⟨rfl, hy0, hb, hkp⟩; refine ⟨_, rfl, ?_⟩; have n_ := an (Kd.R_mono (ok' := fun k_ => some k_ ≠ (v397 : Value).ownBlock ∧ some k_ ≠ (.slice Ao31 t362.length co31 : Value).ownBlock ∧ some k_ ≠ (.slice Ao43 t374.length co43 : Value).ownBlock ∧ some k_ ≠ (.slice Ao61 t388.length co61 : Value).ownBlock ∧ some k_ ≠ (.slice Ao90 t402.length co90 : Value).ownBlock) (Kd.R_keptB ((Kd.R_apart' HO_9.out (Kd.R_typed HO_388001.out) (by decide))) hkp (fun k_ hk_ hs_ => (hk_.2) hs_)) (fun k_ hk_ => ⟨hk_.1.1.1, hk_.1.1.2.1, hk_.1.1.2.2.1, hk_.1.1.2.2.2.1, hk_.1.1.2.2.2.2⟩)) (an (Kd.R_mono (ok' := fun k_ => some k_ ≠ (v371 : Value).ownBlock ∧ some k_ ≠ (.slice Ao31 t362.length co31 : Value).ownBlock ∧ some k_ ≠ (.slice Ao43 t374.length co43 : Value).ownBlock ∧ some k_ ≠ (.slice Ao61 t388.length co61 : Value).ownBlock ∧ some k_ ≠ (.slice Ao90 t402.length co90 : Value).ownBlock) (Kd.R_keptB ((Kd.R_apart' HO_13.out (Kd.R_typed HO_388001.out) (by decide))) hkp (fun k_ hk_ hs_ => (hk_.2) hs_)) (fun k_ hk_ => ⟨hk_.1.1.1, hk_.1.1.2.1, hk_.1.1.2.2.1, hk_.1.1.2.2.2.1, hk_.1.1.2.2.2.2⟩)) (an (Kd.R_mono (ok' := fun k_ => some k_ ≠ (v371 : Value).ownBlock ∧ some k_ ≠ (v397 : Value).ownBlock ∧ some k_ ≠ (.slice Ao43 t374.length co43 : Value).ownBlock ∧ some k_ ≠ (.slice Ao61 t388.length co61 : Value).ownBlock ∧ some k_ ≠ (.slice Ao90 t402.length co90 : Value).ownBlock) (Kd.R_keptB ((Kd.R_apart' HO_374000.out (Kd.R_typed HO_388001.out) (by decide))) hkp (fun k_ hk_ hs_ => (hk_.2) hs_)) (fun k_ hk_ => ⟨hk_.1.1.1, hk_.1.1.2.1, hk_.1.1.2.2.1, hk_.1.1.2.2.2.1, hk_.1.1.2.2.2.2⟩)) (an (Kd.R_mono (ok' := fun k_ => some k_ ≠ (v371 : Value).ownBlock ∧ some k_ ≠ (v397 : Value).ownBlock ∧ some k_ ≠ (.slice Ao31 t362.length co31 : Value).ownBlock ∧ some k_ ≠ (.slice Ao61 t388.length co61 : Value).ownBlock ∧ some k_ ≠ (.slice Ao90 t402.length co90 : Value).ownBlock) (Kd.R_keptB ((Kd.R_apart' HO_383000.out (Kd.R_typed HO_388001.out) (by decide))) hkp (fun k_ hk_ hs_ => (hk_.2) hs_)) (fun k_ hk_ => ⟨hk_.1.1.1.1, hk_.1.1.1.2.1, hk_.1.1.1.2.2.1, hk_.1.1.1.2.2.2, hk_.1.1.2⟩)) (an (Kd.R_reok rfl hy0 (fun k_ e_ => HO_388001.out.1 k_ e_)) (an (Kd.R_mono (ok' := fun k_ => some k_ ≠ (v371 : Value).ownBlock ∧ some k_ ≠ (v397 : Value).ownBlock ∧ some k_ ≠ (.slice Ao31 t362.length co31 : Value).ownBlock ∧ some k_ ≠ (.slice Ao43 t374.length co43 : Value).ownBlock ∧ some k_ ≠ (.slice Ao90 t402.length co90 : Value).ownBlock) (Kd.R_keptB ((Kd.R_apart' HO_400000.out (Kd.R_typed HO_388001.out) (by decide))) hkp (fun k_ hk_ hs_ => (hk_.2) hs_)) (fun k_ hk_ => ⟨hk_.1.1.1, hk_.1.1.2.1, hk_.1.1.2.2.1, hk_.1.1.2.2.2.1, hk_.1.1.2.2.2.2⟩)) (an (blk_kept (by exact blk_nw BK346.out) hkp (fun hs_ => (fun e_ => (Kd.R_ne HO_388001.out BK346.out (by decide)) e_) hs_)) (an (blk_kept (by exact blk_nw BK347.out) hkp (fun hs_ => (fun e_ => (Kd.R_ne HO_388001.out BK347.out (by decide)) e_) hs_)) (an (blk_kept (by exact blk_nw BK373.out) hkp (fun hs_ => (fun e_ => (Kd.R_ne HO_388001.out BK373.out (by decide)) e_) hs_)) (an (blk_kept (by exact blk_nw BK382.out) hkp (fun hs_ => (fun e_ => (Kd.R_ne HO_388001.out BK382.out (by decide)) e_) hs_)) (an (blk_kept (by exact blk_nw BK387.out) hkp (fun hs_ => (fun e_ => (Kd.R_ne HO_388001.out BK387.out (by decide)) e_) hs_)) (an (blk_kept (by exact blk_nw BK399.out) hkp (fun hs_ => (fun e_ => (Kd.R_ne HO_388001.out BK399.out (by decide)) e_) hs_)) (an (Kd.R_mono (ok' := fun k_ => some k_ ≠ (v371 : Value).ownBlock ∧ some k_ ≠ (v397 : Value).ownBlock ∧ some k_ ≠ (.slice Ao31 t362.length co31 : Value).ownBlock ∧ some k_ ≠ (.slice Ao43 t374.length co43 : Value).ownBlock ∧ some k_ ≠ (.slice Ao61 t388.length co61 : Value).ownBlock) (Kd.R_keptB ((Kd.R_apart' HO404.out (Kd.R_typed HO_388001.out) (by decide))) hkp (fun k_ hk_ hs_ => (hk_.2) hs_)) (fun k_ hk_ => ⟨hk_.1.1.1, hk_.1.1.2.1, hk_.1.1.2.2.1, hk_.1.1.2.2.2.1, hk_.1.1.2.2.2.2⟩)) (an (Kd.R_mono (ok' := fun k_ => some k_ ≠ (.slice Ao57 t384.length co57 : Value).ownBlock) (Kd.R_keptB (HO414.out) hkp (fun k_ hk_ hs_ => (hk_) hs_)) (fun k_ hk_ => hk_.1)) (an (hb) (trivial))))))))))))))); clear HO_9 HO_13 HO_374000 HO_383000 HO_388001 HO_400000 BK346 BK347 BK373 BK382 BK387 BK399 HO404 HO414 HB; obtain ⟨HO_9, HO_13, HO_374000, HO_383000, HO_388001, HO_400000, BK346, BK347, BK373, BK382, BK387, BK399, HO404, HO414, HB, -⟩ := n_; (try clear hb); (try clear hkp); (try clear hy0)))
        (try simp only [Act.put, List.setIfInBounds_toArray, List.set_cons_zero, List.set_cons_succ])
        go_cut [88] (fun v88 wc => ∃ (kq : Nat) (x88_101 : Bool), v88 = .bool x88_101 ∧ Aside0 (laws_FnExactHelpers.j1 kq a2 t370 t396 x88_101 l0_0 a0_1 a0_2 a0_3 a0_4 a0_5 a1_0 l1_1 t362 t365 t366 t367 t368 t369 t388 t391 t392 t393 t394 t395 = some r) ∧ Aside0 (kq ≤ kj21) ∧ Aside0 (Kd.R (Kd.int .i64) 3 wc w.heap.size (fun k_ => some k_ ≠ (v397 : Value).ownBlock ∧ some k_ ≠ ((.slice Ao31 t362.length co31) : Value).ownBlock ∧ some k_ ≠ ((.slice Ao43 t374.length co43) : Value).ownBlock ∧ some k_ ≠ ((.slice Ao61 t388.length co61) : Value).ownBlock) v371 t370) ∧ Aside0 (Kd.R (Kd.int .i64) 3 wc w.heap.size (fun k_ => some k_ ≠ (v371 : Value).ownBlock ∧ some k_ ≠ ((.slice Ao31 t362.length co31) : Value).ownBlock ∧ some k_ ≠ ((.slice Ao43 t374.length co43) : Value).ownBlock ∧ some k_ ≠ ((.slice Ao61 t388.length co61) : Value).ownBlock) v397 t396) ∧ Aside0 (Kd.R (Kd.int .i64) 3 wc w.heap.size (fun k_ => some k_ ≠ (v371 : Value).ownBlock ∧ some k_ ≠ (v397 : Value).ownBlock ∧ some k_ ≠ ((.slice Ao43 t374.length co43) : Value).ownBlock ∧ some k_ ≠ ((.slice Ao61 t388.length co61) : Value).ownBlock) (.slice Ao31 t362.length co31) t362) ∧ Aside0 (Kd.R (Kd.int .i64) 3 wc w.heap.size (fun k_ => some k_ ≠ (v371 : Value).ownBlock ∧ some k_ ≠ (v397 : Value).ownBlock ∧ some k_ ≠ ((.slice Ao31 t362.length co31) : Value).ownBlock ∧ some k_ ≠ ((.slice Ao61 t388.length co61) : Value).ownBlock) (.slice Ao43 t374.length co43) t417) ∧ Aside0 (Kd.R k82 82 wc w.heap.size (fun _ => True) (.slice Ao57 t384.length co57) t419) ∧ Aside0 (Kd.R (Kd.int .i64) 3 wc w.heap.size (fun k_ => some k_ ≠ (v371 : Value).ownBlock ∧ some k_ ≠ (v397 : Value).ownBlock ∧ some k_ ≠ ((.slice Ao31 t362.length co31) : Value).ownBlock ∧ some k_ ≠ ((.slice Ao43 t374.length co43) : Value).ownBlock) (.slice Ao61 t388.length co61) t388) ∧ Aside0 (wc.heap[gb346]? = some (.cells #[(.slice A0_0 l0_0.length c0_0), .int .i64 a0_1, .int .i64 a0_2, .int .i64 a0_3, .int .i64 a0_4, .int .i64 a0_5] 88 (0, 0))) ∧ Aside0 (wc.heap[gb347]? = some (.cells #[.int .i64 a1_0, (.slice A1_1 l1_1.length c1_1)] 37 (0, 0))) ∧ Aside0 (wc.heap[gb373]? = some (.cells #[(.slice Ao31 t362.length co31), .int .i64 t365, .int .i64 t366, .int .i64 t367, .int .i64 t368, .int .i64 t369] 90 (0, 0))) ∧ Aside0 (wc.heap[gb382]? = some (.cells #[(.slice Ao43 t374.length co43), .int .i64 t377, .int .i64 t378, .int .i64 t379, .int .i64 t380, .int .i64 t381] 90 (0, 0))) ∧ Aside0 (wc.heap[gb387]? = some (.cells #[.int .i64 t383, (.slice Ao57 t384.length co57)] 41 (0, 0))) ∧ Aside0 (wc.heap[gb399]? = some (.cells #[(.slice Ao61 t388.length co61), .int .i64 t391, .int .i64 t392, .int .i64 t393, .int .i64 t394, .int .i64 t395] 90 (0, 0))) ∧ Aside0 (Below w.heap.size w wc))
        case first =>
         have H := HC102.out; clear HC102
         by_cases c116 : t418 < 0
         ·rw [if_pos c116] at H; have c116b0 : decide (t418 < 0) = true := decide_eq_true c116; clear c116; (try simp only [c116b0])
          (first | rw [c116b0] | (simp only [i64_w, i32_w]; rw [c116b0]) | skip)
          have H' := Aside0.mk H
          clear H
          go_wp2
          go_meet
          case rel => exact ⟨_, (true), (by first | rfl | (simp; done) | (simp [*]; done)), H', ⟨by have := HJ21.out; first | omega | exact Nat.le_refl _⟩, ⟨by exact Kd.R_nw (Kd.R_mono HO_9.out (fun _ hk => ⟨hk.1, ⟨hk.2.1, ⟨hk.2.2.1, hk.2.2.2.1⟩⟩⟩))⟩, ⟨by exact Kd.R_nw (Kd.R_mono HO_13.out (fun _ hk => ⟨hk.1, ⟨hk.2.1, ⟨hk.2.2.1, hk.2.2.2.1⟩⟩⟩))⟩, ⟨by exact Kd.R_nw (Kd.R_mono HO_374000.out (fun _ hk => ⟨hk.1, ⟨hk.2.1, ⟨hk.2.2.1, hk.2.2.2.1⟩⟩⟩))⟩, ⟨by exact Kd.R_nw (Kd.R_mono HO_383000.out (fun _ hk => ⟨hk.1, ⟨hk.2.1, ⟨hk.2.2.1, hk.2.2.2.1⟩⟩⟩))⟩, ⟨by exact Kd.R_nw (Kd.R_mono HO_388001.out (fun _ hk => trivial))⟩, ⟨by exact Kd.R_nw (Kd.R_mono HO_400000.out (fun _ hk => ⟨hk.1, ⟨hk.2.1, ⟨hk.2.2.1, hk.2.2.2.1⟩⟩⟩))⟩, ⟨by exact blk_nw BK346.out⟩, ⟨by exact blk_nw BK347.out⟩, ⟨by exact blk_nw BK373.out⟩, ⟨by exact blk_nw BK382.out⟩, ⟨by exact blk_nw BK387.out⟩, ⟨by exact blk_nw BK399.out⟩, ⟨by exact bel0⟩⟩
         ·rw [if_neg c116] at H; have c116b0 : decide (t418 < 0) = false := decide_eq_false c116; clear c116; (try simp only [c116b0])
          (first | rw [c116b0] | (simp only [i64_w, i32_w]; rw [c116b0]) | skip)
          replace H := Option.bind_eq_some_iff.mp H; obtain ⟨t420, A1170, H⟩ := H; have A117 := Aside0.mk A1170; clear A1170; have hnb118 := NB399_346.out; have hnc118 := NB346_399.out; have hnb119 := NB399_347.out; have hnc119 := NB347_399.out; have hnb120 := NB399_373.out; have hnc120 := NB373_399.out; have hnb121 := NB399_382.out; have hnc121 := NB382_399.out; have hnb122 := NB399_387.out; have hnc122 := NB387_399.out; obtain ⟨hcz123_0, hcz123_1, hcz123_2, hcz123_3, hcz123_4, hcz123_5⟩ := blkz6 BK399.out; have hfz123_0 := blkf BK399.out; have hnb124 := NB373_346.out; have hnc124 := NB346_373.out; have hnb125 := NB373_347.out; have hnc125 := NB347_373.out; have hnb126 := NB373_382.out; have hnc126 := NB382_373.out; have hnb127 := NB373_387.out; have hnc127 := NB387_373.out; obtain ⟨hcz128_0, hcz128_1, hcz128_2, hcz128_3, hcz128_4, hcz128_5⟩ := blkz6 BK373.out; have hfz128_0 := blkf BK373.out
          replace H := Aside0.mk H
          go_wp2_with (first | (go_at_call 60; (with_reducible refine (laws_eqProber.calls kj21 _ _ t388 t391 t392 t393 t394 t395 _ _ t362 t365 t366 t367 t368 t369 t420 _ ?side1 ?side2 ?side3 ?side4 A117.out).mono ?_); (case side1 => repeat (first | exact (Kd.R_reads' HO_400000.out).2.2 | (with_reducible refine Kd.C_alloc ?_ _) | (with_reducible refine Kd.C_drewN ?_ _) | (with_reducible refine Kd.C_drew ?_))); (case side2 => exact (Kd.R_reads' HO_400000.out).2.1); (case side3 => repeat (first | exact (Kd.R_reads' HO_374000.out).2.2 | (with_reducible refine Kd.C_alloc ?_ _) | (with_reducible refine Kd.C_drewN ?_ _) | (with_reducible refine Kd.C_drew ?_))); (case side4 => exact (Kd.R_reads' HO_374000.out).2.1); rintro e w129 ⟨rfl, hb⟩; have n_ := an (Kd.R_below (by exact Kd.R_nw HO_9.out) hb) (an (Kd.R_below (by exact Kd.R_nw HO_13.out) hb) (an (Kd.R_below (by exact Kd.R_nw HO_374000.out) hb) (an (Kd.R_below (by exact Kd.R_nw HO_383000.out) hb) (an (Kd.R_below (by exact Kd.R_nw HO_388001.out) hb) (an (Kd.R_below (by exact Kd.R_nw HO_400000.out) hb) (an (Kd.R_below (by exact Kd.R_nw HO404.out) hb) (an (Kd.R_below (by exact Kd.R_nw HO414.out) hb) (an (blk_below (blk_nw BK346.out) hb) (an (blk_below (blk_nw BK347.out) hb) (an (blk_below (blk_nw BK373.out) hb) (an (blk_below (blk_nw BK382.out) hb) (an (blk_below (blk_nw BK387.out) hb) (an (blk_below (blk_nw BK399.out) hb) (an (below_step (by exact bel0) hb) (trivial))))))))))))))); clear HO_9 HO_13 HO_374000 HO_383000 HO_388001 HO_400000 HO404 HO414 BK346 BK347 BK373 BK382 BK387 BK399 HB; obtain ⟨HO_9, HO_13, HO_374000, HO_383000, HO_388001, HO_400000, HO404, HO414, BK346, BK347, BK373, BK382, BK387, BK399, HB, -⟩ := n_; (try clear hb); (try clear hb2); (try clear hk); (try clear hi); refine Stop.out ?_))
          refine Stop.mk ?_
          replace H := H.out
          by_cases c130 : t420 = true
          ·subst c130; rw [if_pos rfl] at H; replace H := Option.bind_eq_some_iff.mp H; obtain ⟨t421, A1310, H⟩ := H; have A131 := Aside0.mk A1310; clear A1310
           have H' := Aside0.mk H
           clear H
           obtain ⟨Ao132, co132, eo132⟩ := Kd.R_slice HO_13.out
           subst eo132
           obtain ⟨Ao133, co133, eo133⟩ := Kd.R_slice HO_9.out
           subst eo133
           go_wp2_with (first | (go_at_call 43; (with_reducible refine (laws_eqIntS.calls kj21 _ _ t396 _ _ t370 t421 _ ?side1 ?side2 ?side3 ?side4 A131.out).mono ?_); (case side1 => repeat (first | exact (Kd.R_reads' HO_13.out).2.2 | (with_reducible refine Kd.C_alloc ?_ _) | (with_reducible refine Kd.C_drewN ?_ _) | (with_reducible refine Kd.C_drew ?_))); (case side2 => exact (Kd.R_reads' HO_13.out).2.1); (case side3 => repeat (first | exact (Kd.R_reads' HO_9.out).2.2 | (with_reducible refine Kd.C_alloc ?_ _) | (with_reducible refine Kd.C_drewN ?_ _) | (with_reducible refine Kd.C_drew ?_))); (case side4 => exact (Kd.R_reads' HO_9.out).2.1); rintro e w' ⟨rfl, ⟨nd, rfl⟩⟩))
           go_meet
           case rel => exact ⟨_, (!t421), (by first | rfl | (simp; done) | (simp [*]; done)), H', ⟨by have := HJ21.out; first | omega | exact Nat.le_refl _⟩, ⟨by exact Kd.R_nw (Kd.R_mono HO_9.out (fun _ hk => ⟨hk.1, ⟨hk.2.1, ⟨hk.2.2.1, hk.2.2.2.1⟩⟩⟩))⟩, ⟨by exact Kd.R_nw (Kd.R_mono HO_13.out (fun _ hk => ⟨hk.1, ⟨hk.2.1, ⟨hk.2.2.1, hk.2.2.2.1⟩⟩⟩))⟩, ⟨by exact Kd.R_nw (Kd.R_mono HO_374000.out (fun _ hk => ⟨hk.1, ⟨hk.2.1, ⟨hk.2.2.1, hk.2.2.2.1⟩⟩⟩))⟩, ⟨by exact Kd.R_nw (Kd.R_mono HO_383000.out (fun _ hk => ⟨hk.1, ⟨hk.2.1, ⟨hk.2.2.1, hk.2.2.2.1⟩⟩⟩))⟩, ⟨by exact Kd.R_nw (Kd.R_mono HO_388001.out (fun _ hk => trivial))⟩, ⟨by exact Kd.R_nw (Kd.R_mono HO_400000.out (fun _ hk => ⟨hk.1, ⟨hk.2.1, ⟨hk.2.2.1, hk.2.2.2.1⟩⟩⟩))⟩, ⟨by exact blk_nw BK346.out⟩, ⟨by exact blk_nw BK347.out⟩, ⟨by exact blk_nw BK373.out⟩, ⟨by exact blk_nw BK382.out⟩, ⟨by exact blk_nw BK387.out⟩, ⟨by exact blk_nw BK399.out⟩, ⟨by exact bel0⟩⟩
          ·replace c130 := Bool.eq_false_iff.mpr c130
           subst c130
           rw [if_neg (show ¬ (false = true) by decide)] at H
           have H' := Aside0.mk H
           clear H
           go_wp2
           go_meet
           case rel => exact ⟨_, (true), (by first | rfl | (simp; done) | (simp [*]; done)), H', ⟨by have := HJ21.out; first | omega | exact Nat.le_refl _⟩, ⟨by exact Kd.R_nw (Kd.R_mono HO_9.out (fun _ hk => ⟨hk.1, ⟨hk.2.1, ⟨hk.2.2.1, hk.2.2.2.1⟩⟩⟩))⟩, ⟨by exact Kd.R_nw (Kd.R_mono HO_13.out (fun _ hk => ⟨hk.1, ⟨hk.2.1, ⟨hk.2.2.1, hk.2.2.2.1⟩⟩⟩))⟩, ⟨by exact Kd.R_nw (Kd.R_mono HO_374000.out (fun _ hk => ⟨hk.1, ⟨hk.2.1, ⟨hk.2.2.1, hk.2.2.2.1⟩⟩⟩))⟩, ⟨by exact Kd.R_nw (Kd.R_mono HO_383000.out (fun _ hk => ⟨hk.1, ⟨hk.2.1, ⟨hk.2.2.1, hk.2.2.2.1⟩⟩⟩))⟩, ⟨by exact Kd.R_nw (Kd.R_mono HO_388001.out (fun _ hk => trivial))⟩, ⟨by exact Kd.R_nw (Kd.R_mono HO_400000.out (fun _ hk => ⟨hk.1, ⟨hk.2.1, ⟨hk.2.2.1, hk.2.2.2.1⟩⟩⟩))⟩, ⟨by exact blk_nw BK346.out⟩, ⟨by exact blk_nw BK347.out⟩, ⟨by exact blk_nw BK373.out⟩, ⟨by exact blk_nw BK382.out⟩, ⟨by exact blk_nw BK387.out⟩, ⟨by exact blk_nw BK399.out⟩, ⟨by exact bel0⟩⟩
        case rest =>
         clear HC102; try clear c1; try clear c2; try clear p2; try clear c3; try clear c4; try clear c5; try clear c6; try clear c7; try clear c8; try clear c9; try clear c10; try clear c11; try clear c12; try clear c13; try clear c25; try clear c27; try clear c28; try clear c38; try clear c39; try clear c44; try clear c45; try clear c46; try clear c48; try clear c52; try clear c53; try clear c54; try clear c55; try clear c57; try clear c58; try clear c59; try clear c60; try clear c61; try clear c62; try clear c63; try clear c64; try clear c65; try clear c66; try clear c69; try clear c70; try clear c71; try clear c72; try clear c73; try clear c75; try clear c76; try clear c77; try clear c78; try clear c81; try clear c85; try clear c92; try clear c99; try clear c103; try clear c104; try clear c105; try clear c106; try clear c107; try clear c110; try clear c111; try clear c112; try clear c113; try clear c116; try clear c116b0; try clear c118; try clear c119; try clear c120; try clear c121; try clear c122; try clear c124; try clear c125; try clear c126; try clear c127; try clear c130; try clear hcz108_0; try clear hcz108_1; try clear hcz108_2; try clear hcz108_3; try clear hcz108_4; try clear hcz108_5; try clear hcz114_0; try clear hcz114_1; try clear hcz123_0; try clear hcz123_1; try clear hcz123_2; try clear hcz123_3; try clear hcz123_4; try clear hcz123_5; try clear hcz128_0; try clear hcz128_1; try clear hcz128_2; try clear hcz128_3; try clear hcz128_4; try clear hcz128_5; try clear hcz40_0; try clear hcz40_1; try clear hcz40_2; try clear hcz40_3; try clear hcz40_4; try clear hcz40_5; try clear hcz47_0; try clear hcz47_1; try clear hcz47_2; try clear hcz47_3; try clear hcz47_4; try clear hcz47_5; try clear hcz49_0; try clear hcz49_1; try clear hcz56_0; try clear hcz56_1; try clear hcz58_0; try clear hcz58_1; try clear hcz58_2; try clear hcz58_3; try clear hcz58_4; try clear hcz58_5; try clear hcz67_0; try clear hcz67_1; try clear hcz67_2; try clear hcz67_3; try clear hcz67_4; try clear hcz67_5; try clear hcz74_0; try clear hcz74_1; try clear hcz74_2; try clear hcz74_3; try clear hcz74_4; try clear hcz74_5; try clear hcz79_0; try clear hcz79_1; try clear hcz79_2; try clear hcz79_3; try clear hcz79_4; try clear hcz79_5; try clear hfz108_0; try clear hfz108_1; try clear hfz108_2; try clear hfz108_3; try clear hfz108_4; try clear hfz108_5; try clear hfz114_0; try clear hfz114_1; try clear hfz123_0; try clear hfz123_1; try clear hfz123_2; try clear hfz123_3; try clear hfz123_4; try clear hfz123_5; try clear hfz128_0; try clear hfz128_1; try clear hfz128_2; try clear hfz128_3; try clear hfz128_4; try clear hfz128_5; try clear hfz40_0; try clear hfz40_1; try clear hfz40_2; try clear hfz40_3; try clear hfz40_4; try clear hfz40_5; try clear hfz47_0; try clear hfz47_1; try clear hfz47_2; try clear hfz47_3; try clear hfz47_4; try clear hfz47_5; try clear hfz49_0; try clear hfz49_1; try clear hfz56_0; try clear hfz56_1; try clear hfz58_0; try clear hfz58_1; try clear hfz58_2; try clear hfz58_3; try clear hfz58_4; try clear hfz58_5; try clear hfz67_0; try clear hfz67_1; try clear hfz67_2; try clear hfz67_3; try clear hfz67_4; try clear hfz67_5; try clear hfz74_0; try clear hfz74_1; try clear hfz74_2; try clear hfz74_3; try clear hfz74_4; try clear hfz74_5; try clear hfz79_0; try clear hfz79_1; try clear hfz79_2; try clear hfz79_3; try clear hfz79_4; try clear hfz79_5; try clear p2
         obtain ⟨kq, x88_101, rfl, HA, HJ101, HO_9, HO_13, HO_374000, HO_383000, HO_388001, HO_400000, BK346, BK347, BK373, BK382, BK387, BK399, HB⟩ := hcut
         have hl383000_101 := (Kd.R_reads' HO_383000.out).1
         rw [hl383000_101] at HO_383000
         (try simp only [hl383000_101])
         (try simp only [hl383000_101] at BK346)
         (try simp only [hl383000_101] at BK347)
         (try simp only [hl383000_101] at BK373)
         (try simp only [hl383000_101] at BK382)
         (try simp only [hl383000_101] at BK387)
         (try simp only [hl383000_101] at BK399)
         (try simp only [hl383000_101] at HO_9)
         (try simp only [hl383000_101] at HO_13)
         (try simp only [hl383000_101] at HO_374000)
         (try simp only [hl383000_101] at HO_388001)
         (try simp only [hl383000_101] at HO_400000)
         have hl388001_101 := (Kd.R_reads' HO_388001.out).1
         rw [hl388001_101] at HO_388001
         (try simp only [hl388001_101])
         (try simp only [hl388001_101] at BK346)
         (try simp only [hl388001_101] at BK347)
         (try simp only [hl388001_101] at BK373)
         (try simp only [hl388001_101] at BK382)
         (try simp only [hl388001_101] at BK387)
         (try simp only [hl388001_101] at BK399)
         (try simp only [hl388001_101] at HO_9)
         (try simp only [hl388001_101] at HO_13)
         (try simp only [hl388001_101] at HO_374000)
         (try simp only [hl388001_101] at HO_383000)
         (try simp only [hl388001_101] at HO_400000)
         cases kq with
         | zero => exact absurd HA.out (by simp [laws_FnExactHelpers.j1])
         | succ kj101 =>
          have H := HA.out; clear HA
          simp only [laws_FnExactHelpers.j1] at H
          by_cases c134 : x88_101 = true
          ·subst c134; rw [if_pos rfl] at H
           obtain rfl := Option.some.inj H
           go_wp2
           go_ret
           exact ⟨by first | rfl | (simp [errW_none, errW_some] <;> rfl) | (simp [*, errW_none, errW_some] <;> rfl), by exact bel0⟩
          ·replace c134 := Bool.eq_false_iff.mpr c134
           subst c134
           rw [if_neg (show ¬ (false = true) by decide)] at H
           replace H := Option.bind_eq_some_iff.mp H
           obtain ⟨⟨t422, t423⟩, A1350, H⟩ := H
           replace H : ((laws_markIntS.f kj101 t396 t422).bind fun bt424 => ((laws_heldProber.f kj101 t423 t391 t392 t393 t394 t395 1).bind fun t426 => (if t426 < 0 then (some false) else ((laws_heldIntS.f kj101 bt424.2 t426).bind fun t427 => (if t427 < 0 then (some false) else (if t427 = bt424.1 then ((laws_toProber.f kj101 l0_0 a0_1 a0_2 a0_3 a0_4 a0_5).bind fun bt428 => ((laws_toTable.f kj101 a1_0 l1_1).bind fun bt436 => ((impl_Helpers.f kj101 bt428.1 bt428.2.1 bt428.2.2.1 bt428.2.2.2.1 bt428.2.2.2.2.1 bt428.2.2.2.2.2 bt436.1 bt436.2 a2).bind fun bt440 => ((laws_eqProber.f kj101 bt440.1 bt440.2.1 bt440.2.2.1 bt440.2.2.2.1 bt440.2.2.2.2.1 bt440.2.2.2.2.2.1 t362 t365 t366 t367 t368 t369).bind fun t452 => (if t452 = true then ((laws_eqIntS.f kj101 bt440.2.2.2.2.2.2 t370).bind fun t453 => (laws_FnExactHelpers.j2 kj101 bt424.2 bt424.1 (!t453) t423 t391 t392 t393 t394 t395)) else (laws_FnExactHelpers.j2 kj101 bt424.2 bt424.1 true t423 t391 t392 t393 t394 t395)))))) else (some false))))))) = some r := H
           have A135 := Aside0.mk A1350; clear A1350; replace H := Option.bind_eq_some_iff.mp H
           obtain ⟨⟨t424, t425⟩, A1360, H⟩ := H
           replace H : ((laws_heldProber.f kj101 t423 t391 t392 t393 t394 t395 1).bind fun t426 => (if t426 < 0 then (some false) else ((laws_heldIntS.f kj101 t425 t426).bind fun t427 => (if t427 < 0 then (some false) else (if t427 = t424 then ((laws_toProber.f kj101 l0_0 a0_1 a0_2 a0_3 a0_4 a0_5).bind fun bt428 => ((laws_toTable.f kj101 a1_0 l1_1).bind fun bt436 => ((impl_Helpers.f kj101 bt428.1 bt428.2.1 bt428.2.2.1 bt428.2.2.2.1 bt428.2.2.2.2.1 bt428.2.2.2.2.2 bt436.1 bt436.2 a2).bind fun bt440 => ((laws_eqProber.f kj101 bt440.1 bt440.2.1 bt440.2.2.1 bt440.2.2.2.1 bt440.2.2.2.2.1 bt440.2.2.2.2.2.1 t362 t365 t366 t367 t368 t369).bind fun t452 => (if t452 = true then ((laws_eqIntS.f kj101 bt440.2.2.2.2.2.2 t370).bind fun t453 => (laws_FnExactHelpers.j2 kj101 t425 t424 (!t453) t423 t391 t392 t393 t394 t395)) else (laws_FnExactHelpers.j2 kj101 t425 t424 true t423 t391 t392 t393 t394 t395)))))) else (some false)))))) = some r := H
           have A136 := Aside0.mk A1360; clear A1360; replace H := Option.bind_eq_some_iff.mp H; obtain ⟨t426, A1370, H⟩ := H; have A137 := Aside0.mk A1370; clear A1370; have hnb138 := NB399_346.out; have hnc138 := NB346_399.out; have hnb139 := NB399_347.out; have hnc139 := NB347_399.out; have hnb140 := NB399_373.out; have hnc140 := NB373_399.out; have hnb141 := NB399_382.out; have hnc141 := NB382_399.out; have hnb142 := NB399_387.out; have hnc142 := NB387_399.out; obtain ⟨hcz143_0, hcz143_1, hcz143_2, hcz143_3, hcz143_4, hcz143_5⟩ := blkz6 BK399.out; have hfz143_0 := blkf BK399.out
           replace H := Aside0.mk H
           go_wp2_with (first | ((with_reducible refine gate_callee (f := 61) rfl ?_); refine goesL_ (some 91) rfl rfl Try.func61 (by kernel_rfl) rfl #[.agg #[.slice Ao61 t388.length co61, .int .i64 t391, .int .i64 t392, .int .i64 t393, .int .i64 t394, .int .i64 t395], .int .i64 1] rfl (by (try simp only [List.map_toArray, List.map_cons, List.map_nil]); first | done | rfl | (simp only [List.length_drop, List.length_take]; rfl)) ?_; (with_reducible refine (laws_markProber.calls kj101 (fun k_ => some k_ = (.slice Ao61 t388.length co61 : Value).ownBlock) (.slice Ao61 t388.length co61) t388 t391 t392 t393 t394 t395 1 t422 t423 w _ ?side1 ?side2 A135.out).mono ?_); (case side1 => exact bel0); (case side2 => exact Kd.R_tight rfl HO_400000.out); rintro e w144 ⟨rfl, hy0, hb, hkp⟩; refine ⟨_, rfl, ?_⟩; have n_ := an (Kd.R_mono (ok' := fun k_ => some k_ ≠ (v397 : Value).ownBlock ∧ some k_ ≠ (.slice Ao31 t362.length co31 : Value).ownBlock ∧ some k_ ≠ (.slice Ao43 t417.length co43 : Value).ownBlock ∧ some k_ ≠ (.slice Ao61 t388.length co61 : Value).ownBlock) (Kd.R_keptB (HO_9.out) hkp (fun k_ hk_ hs_ => (hk_.2.2.2) hs_)) (fun k_ hk_ => ⟨hk_.1.1, hk_.1.2.1, hk_.1.2.2.1, hk_.1.2.2.2⟩)) (an (Kd.R_mono (ok' := fun k_ => some k_ ≠ (v371 : Value).ownBlock ∧ some k_ ≠ (.slice Ao31 t362.length co31 : Value).ownBlock ∧ some k_ ≠ (.slice Ao43 t417.length co43 : Value).ownBlock ∧ some k_ ≠ (.slice Ao61 t388.length co61 : Value).ownBlock) (Kd.R_keptB (HO_13.out) hkp (fun k_ hk_ hs_ => (hk_.2.2.2) hs_)) (fun k_ hk_ => ⟨hk_.1.1, hk_.1.2.1, hk_.1.2.2.1, hk_.1.2.2.2⟩)) (an (Kd.R_mono (ok' := fun k_ => some k_ ≠ (v371 : Value).ownBlock ∧ some k_ ≠ (v397 : Value).ownBlock ∧ some k_ ≠ (.slice Ao43 t417.length co43 : Value).ownBlock ∧ some k_ ≠ (.slice Ao61 t388.length co61 : Value).ownBlock) (Kd.R_keptB (HO_374000.out) hkp (fun k_ hk_ hs_ => (hk_.2.2.2) hs_)) (fun k_ hk_ => ⟨hk_.1.1, hk_.1.2.1, hk_.1.2.2.1, hk_.1.2.2.2⟩)) (an (Kd.R_mono (ok' := fun k_ => some k_ ≠ (v371 : Value).ownBlock ∧ some k_ ≠ (v397 : Value).ownBlock ∧ some k_ ≠ (.slice Ao31 t362.length co31 : Value).ownBlock ∧ some k_ ≠ (.slice Ao61 t388.length co61 : Value).ownBlock) (Kd.R_keptB (HO_383000.out) hkp (fun k_ hk_ hs_ => (hk_.2.2.2) hs_)) (fun k_ hk_ => ⟨hk_.1.1, hk_.1.2.1, hk_.1.2.2.1, hk_.1.2.2.2⟩)) (an (Kd.R_mono (ok' := fun k_ => True) (Kd.R_keptB ((Kd.R_apart' HO_388001.out (Kd.R_typed HO_400000.out) (by decide))) hkp (fun k_ hk_ hs_ => (hk_.2) hs_)) (fun k_ hk_ => trivial)) (an (Kd.R_reok rfl hy0 (fun k_ e_ => HO_400000.out.1 k_ e_)) (an (blk_kept (by exact blk_nw BK346.out) hkp (fun hs_ => (fun e_ => (Kd.R_ne HO_400000.out BK346.out (by decide)) e_) hs_)) (an (blk_kept (by exact blk_nw BK347.out) hkp (fun hs_ => (fun e_ => (Kd.R_ne HO_400000.out BK347.out (by decide)) e_) hs_)) (an (blk_kept (by exact blk_nw BK373.out) hkp (fun hs_ => (fun e_ => (Kd.R_ne HO_400000.out BK373.out (by decide)) e_) hs_)) (an (blk_kept (by exact blk_nw BK382.out) hkp (fun hs_ => (fun e_ => (Kd.R_ne HO_400000.out BK382.out (by decide)) e_) hs_)) (an (blk_kept (by exact blk_nw BK387.out) hkp (fun hs_ => (fun e_ => (Kd.R_ne HO_400000.out BK387.out (by decide)) e_) hs_)) (an (blk_kept (by exact blk_nw BK399.out) hkp (fun hs_ => (fun e_ => (Kd.R_ne HO_400000.out BK399.out (by decide)) e_) hs_)) (an (hb) (trivial))))))))))))); clear HO_9 HO_13 HO_374000 HO_383000 HO_388001 HO_400000 BK346 BK347 BK373 BK382 BK387 BK399 HB; obtain ⟨HO_9, HO_13, HO_374000, HO_383000, HO_388001, HO_400000, BK346, BK347, BK373, BK382, BK387, BK399, HB, -⟩ := n_; (try clear hb); (try clear hkp); (try clear hy0); obtain ⟨Ao145, co145, eo145⟩ := Kd.R_slice HO_13.out; subst eo145) | ((with_reducible refine gate_callee (f := 44) rfl ?_); refine goesL_ (some 94) rfl rfl Try.func44 (by kernel_rfl) rfl #[.slice Ao145 t396.length co145, .int .i64 t422] rfl (by (try simp only [List.map_toArray, List.map_cons, List.map_nil]); first | done | rfl | (simp only [List.length_drop, List.length_take]; rfl)) ?_; (with_reducible refine (laws_markIntS.calls kj101 (fun k_ => some k_ = (.slice Ao145 t396.length co145 : Value).ownBlock) (.slice Ao145 t396.length co145) t396 t422 t424 t425 w _ ?side1 ?side2 A136.out).mono ?_); (case side1 => exact bel0); (case side2 => exact Kd.R_tight rfl HO_13.out); rintro e w146 ⟨rfl, hy0, hb, hkp⟩; refine ⟨_, rfl, ?_⟩; have n_ := an (Kd.R_mono (ok' := fun k_ => some k_ ≠ (.slice Ao145 t396.length co145 : Value).ownBlock ∧ some k_ ≠ (.slice Ao31 t362.length co31 : Value).ownBlock ∧ some k_ ≠ (.slice Ao43 t417.length co43 : Value).ownBlock ∧ some k_ ≠ (.slice Ao61 t388.length co61 : Value).ownBlock) (Kd.R_keptB (HO_9.out) hkp (fun k_ hk_ hs_ => (hk_.1) hs_)) (fun k_ hk_ => ⟨hk_.1.1, hk_.1.2.1, hk_.1.2.2.1, hk_.1.2.2.2⟩)) (an (Kd.R_reok rfl hy0 (fun k_ e_ => HO_13.out.1 k_ e_)) (an (Kd.R_mono (ok' := fun k_ => some k_ ≠ (v371 : Value).ownBlock ∧ some k_ ≠ (.slice Ao145 t396.length co145 : Value).ownBlock ∧ some k_ ≠ (.slice Ao43 t417.length co43 : Value).ownBlock ∧ some k_ ≠ (.slice Ao61 t388.length co61 : Value).ownBlock) (Kd.R_keptB (HO_374000.out) hkp (fun k_ hk_ hs_ => (hk_.2.1) hs_)) (fun k_ hk_ => ⟨hk_.1.1, hk_.1.2.1, hk_.1.2.2.1, hk_.1.2.2.2⟩)) (an (Kd.R_mono (ok' := fun k_ => some k_ ≠ (v371 : Value).ownBlock ∧ some k_ ≠ (.slice Ao145 t396.length co145 : Value).ownBlock ∧ some k_ ≠ (.slice Ao31 t362.length co31 : Value).ownBlock ∧ some k_ ≠ (.slice Ao61 t388.length co61 : Value).ownBlock) (Kd.R_keptB (HO_383000.out) hkp (fun k_ hk_ hs_ => (hk_.2.1) hs_)) (fun k_ hk_ => ⟨hk_.1.1, hk_.1.2.1, hk_.1.2.2.1, hk_.1.2.2.2⟩)) (an (Kd.R_mono (ok' := fun k_ => True) (Kd.R_keptB ((Kd.R_apart' HO_388001.out (Kd.R_typed HO_13.out) (by decide))) hkp (fun k_ hk_ hs_ => (hk_.2) hs_)) (fun k_ hk_ => trivial)) (an (Kd.R_mono (ok' := fun k_ => some k_ ≠ (v371 : Value).ownBlock ∧ some k_ ≠ (.slice Ao145 t396.length co145 : Value).ownBlock ∧ some k_ ≠ (.slice Ao31 t362.length co31 : Value).ownBlock ∧ some k_ ≠ (.slice Ao43 t417.length co43 : Value).ownBlock) (Kd.R_keptB (HO_400000.out) hkp (fun k_ hk_ hs_ => (hk_.2.1) hs_)) (fun k_ hk_ => ⟨hk_.1.1, hk_.1.2.1, hk_.1.2.2.1, hk_.1.2.2.2⟩)) (an (blk_kept (by exact blk_nw BK346.out) hkp (fun hs_ => (fun e_ => (Kd.R_ne HO_13.out BK346.out (by decide)) e_) hs_)) (an (blk_kept (by exact blk_nw BK347.out) hkp (fun hs_ => (fun e_ => (Kd.R_ne HO_13.out BK347.out (by decide)) e_) hs_)) (an (blk_kept (by exact blk_nw BK373.out) hkp (fun hs_ => (fun e_ => (Kd.R_ne HO_13.out BK373.out (by decide)) e_) hs_)) (an (blk_kept (by exact blk_nw BK382.out) hkp (fun hs_ => (fun e_ => (Kd.R_ne HO_13.out BK382.out (by decide)) e_) hs_)) (an (blk_kept (by exact blk_nw BK387.out) hkp (fun hs_ => (fun e_ => (Kd.R_ne HO_13.out BK387.out (by decide)) e_) hs_)) (an (blk_kept (by exact blk_nw BK399.out) hkp (fun hs_ => (fun e_ => (Kd.R_ne HO_13.out BK399.out (by decide)) e_) hs_)) (an (hb) (trivial))))))))))))); clear HO_9 HO_13 HO_374000 HO_383000 HO_388001 HO_400000 BK346 BK347 BK373 BK382 BK387 BK399 HB; obtain ⟨HO_9, HO_13, HO_374000, HO_383000, HO_388001, HO_400000, BK346, BK347, BK373, BK382, BK387, BK399, HB, -⟩ := n_; (try clear hb); (try clear hkp); (try clear hy0); obtain ⟨hcz147_0, hcz147_1, hcz147_2, hcz147_3, hcz147_4, hcz147_5⟩ := blkz6 BK399.out; have hfz147_0 := blkf BK399.out) | ((with_reducible refine gate_callee (f := 62) rfl ?_); refine goesL_ (some 97) rfl rfl Try.func62 (by kernel_rfl) rfl #[.agg #[.slice Ao61 t423.length co61, .int .i64 t391, .int .i64 t392, .int .i64 t393, .int .i64 t394, .int .i64 t395], .int .i64 1] rfl (by (try simp only [List.map_toArray, List.map_cons, List.map_nil]); first | done | (rw [show t423.length = t388.length from (Kd.R_reads' HO_400000.out).1.symm] <;> rfl) | rfl | (simp only [List.length_drop, List.length_take]; rfl)) ?_; (with_reducible refine (laws_heldProber.calls kj101 _ _ t423 t391 t392 t393 t394 t395 1 t426 _ ?side1 ?side2 A137.out).mono ?_); (case side1 => repeat (first | exact (Kd.R_reads' HO_400000.out).2.2 | (with_reducible refine Kd.C_alloc ?_ _) | (with_reducible refine Kd.C_drewN ?_ _) | (with_reducible refine Kd.C_drew ?_))); (case side2 => rw [show t423.length = t388.length from (Kd.R_reads' HO_400000.out).1.symm]; exact (Kd.R_reads' HO_400000.out).2.1); rintro e w148 ⟨rfl, hb⟩; refine ⟨_, rfl, ?_⟩; have n_ := an (Kd.R_below (by exact Kd.R_nw HO_9.out) hb) (an (Kd.R_below (by exact Kd.R_nw HO_13.out) hb) (an (Kd.R_below (by exact Kd.R_nw HO_374000.out) hb) (an (Kd.R_below (by exact Kd.R_nw HO_383000.out) hb) (an (Kd.R_below (by exact Kd.R_nw HO_388001.out) hb) (an (Kd.R_below (by exact Kd.R_nw HO_400000.out) hb) (an (blk_below (blk_nw BK346.out) hb) (an (blk_below (blk_nw BK347.out) hb) (an (blk_below (blk_nw BK373.out) hb) (an (blk_below (blk_nw BK382.out) hb) (an (blk_below (blk_nw BK387.out) hb) (an (blk_below (blk_nw BK399.out) hb) (an (below_step (by exact bel0) hb) (trivial))))))))))))); clear HO_9 HO_13 HO_374000 HO_383000 HO_388001 HO_400000 BK346 BK347 BK373 BK382 BK387 BK399 HB; obtain ⟨HO_9, HO_13, HO_374000, HO_383000, HO_388001, HO_400000, BK346, BK347, BK373, BK382, BK387, BK399, HB, -⟩ := n_; (try clear hb); (try clear hb2); (try clear hk); (try clear hi); refine Stop.out ?_))
           refine Stop.mk ?_
           replace H := H.out
           by_cases c149 : t426 < 0
           ·rw [if_pos c149] at H; have c149b0 : decide (t426 < 0) = true := decide_eq_true c149; clear c149; (try simp only [c149b0])
            obtain rfl := Option.some.inj H
            go_wp2
            go_ret
            exact ⟨by first | rfl | (simp [errW_none, errW_some] <;> rfl) | (simp [*, errW_none, errW_some] <;> rfl), by exact bel0⟩
           ·rw [if_neg c149] at H; have c149b0 : decide (t426 < 0) = false := decide_eq_false c149; clear c149; (try simp only [c149b0]); replace H := Option.bind_eq_some_iff.mp H; obtain ⟨t427, A1500, H⟩ := H; have A150 := Aside0.mk A1500; clear A1500
            replace H := Aside0.mk H
            go_wp2_with (first | ((with_reducible refine gate_callee (f := 45) rfl ?_); refine goesL_ (some 102) rfl rfl Try.func45 (by kernel_rfl) rfl #[.slice Ao145 t425.length co145, .int .i64 t426] rfl (by (try simp only [List.map_toArray, List.map_cons, List.map_nil]); first | done | (rw [show t425.length = t396.length from (Kd.R_reads' HO_13.out).1.symm] <;> rfl) | rfl | (simp only [List.length_drop, List.length_take]; rfl)) ?_; (with_reducible refine (laws_heldIntS.calls kj101 _ _ t425 t426 t427 _ ?side1 ?side2 A150.out).mono ?_); (case side1 => repeat (first | exact (Kd.R_reads' HO_13.out).2.2 | (with_reducible refine Kd.C_alloc ?_ _) | (with_reducible refine Kd.C_drewN ?_ _) | (with_reducible refine Kd.C_drew ?_))); (case side2 => rw [show t425.length = t396.length from (Kd.R_reads' HO_13.out).1.symm]; exact (Kd.R_reads' HO_13.out).2.1); rintro e w' ⟨rfl, ⟨nd, rfl⟩⟩; refine ⟨_, rfl, ?_⟩; (try (rw [drewN_self w148]; generalize hq_ : World.drewN w148 _ = w148; have n0_ : Aside0 (Kd.R (Kd.int .i64) 3 w148 w.heap.size (fun k_ => some k_ ≠ (.slice Ao31 t362.length co31 : Value).ownBlock ∧ some k_ ≠ (.slice Ao43 t417.length co43 : Value).ownBlock ∧ some k_ ≠ (.slice Ao61 t388.length co61 : Value).ownBlock ∧ some k_ ≠ (v371 : Value).ownBlock) (.slice Ao145 t396.length co145) t425) := ⟨by rw [← hq_]; exact (by exact Kd.R_nw (Kd.R_mono HO_13.out (fun _ hk => ⟨hk.2.1, ⟨hk.2.2.1, ⟨hk.2.2.2, hk.1⟩⟩⟩)))⟩; have n1_ : Aside0 (Kd.R (Kd.int .i64) 3 w148 w.heap.size (fun k_ => some k_ ≠ (.slice Ao145 t396.length co145 : Value).ownBlock ∧ some k_ ≠ (.slice Ao43 t417.length co43 : Value).ownBlock ∧ some k_ ≠ (.slice Ao61 t388.length co61 : Value).ownBlock ∧ some k_ ≠ (v371 : Value).ownBlock) (.slice Ao31 t362.length co31) t362) := ⟨by rw [← hq_]; exact (by exact Kd.R_nw (Kd.R_mono HO_374000.out (fun _ hk => ⟨hk.2.1, ⟨hk.2.2.1, ⟨hk.2.2.2, hk.1⟩⟩⟩)))⟩; have n2_ : Aside0 (Kd.R (Kd.int .i64) 3 w148 w.heap.size (fun k_ => some k_ ≠ (.slice Ao145 t396.length co145 : Value).ownBlock ∧ some k_ ≠ (.slice Ao31 t362.length co31 : Value).ownBlock ∧ some k_ ≠ (.slice Ao61 t388.length co61 : Value).ownBlock ∧ some k_ ≠ (v371 : Value).ownBlock) (.slice Ao43 t417.length co43) t417) := ⟨by rw [← hq_]; exact (by exact Kd.R_nw (Kd.R_mono HO_383000.out (fun _ hk => ⟨hk.2.1, ⟨hk.2.2.1, ⟨hk.2.2.2, hk.1⟩⟩⟩)))⟩; have n3_ : Aside0 (Kd.R k82 82 w148 w.heap.size (fun _ => True) (.slice Ao57 t419.length co57) t419) := ⟨by rw [← hq_]; exact (by exact Kd.R_nw HO_388001.out)⟩; have n4_ : Aside0 (Kd.R (Kd.int .i64) 3 w148 w.heap.size (fun k_ => some k_ ≠ (.slice Ao145 t396.length co145 : Value).ownBlock ∧ some k_ ≠ (.slice Ao31 t362.length co31 : Value).ownBlock ∧ some k_ ≠ (.slice Ao43 t417.length co43 : Value).ownBlock ∧ some k_ ≠ (v371 : Value).ownBlock) (.slice Ao61 t388.length co61) t423) := ⟨by rw [← hq_]; exact (by exact Kd.R_nw (Kd.R_mono HO_400000.out (fun _ hk => ⟨hk.2.1, ⟨hk.2.2.1, ⟨hk.2.2.2, hk.1⟩⟩⟩)))⟩; have n5_ : Aside0 (Kd.R (Kd.int .i64) 3 w148 w.heap.size (fun k_ => some k_ ≠ (.slice Ao145 t396.length co145 : Value).ownBlock ∧ some k_ ≠ (.slice Ao31 t362.length co31 : Value).ownBlock ∧ some k_ ≠ (.slice Ao43 t417.length co43 : Value).ownBlock ∧ some k_ ≠ (.slice Ao61 t388.length co61 : Value).ownBlock) v371 t370) := ⟨by rw [← hq_]; exact (by exact Kd.R_nw HO_9.out)⟩; have n6_ : Aside0 (w148.heap[gb346]? = some (.cells #[.slice A0_0 l0_0.length c0_0, .int .i64 a0_1, .int .i64 a0_2, .int .i64 a0_3, .int .i64 a0_4, .int .i64 a0_5] 88 (0, 0))) := ⟨by rw [← hq_]; exact (by exact blk_nw BK346.out)⟩; have n7_ : Aside0 (w148.heap[gb347]? = some (.cells #[.int .i64 a1_0, .slice A1_1 l1_1.length c1_1] 37 (0, 0))) := ⟨by rw [← hq_]; exact (by exact blk_nw BK347.out)⟩; have n8_ : Aside0 (w148.heap[gb373]? = some (.cells #[.slice Ao31 t362.length co31, .int .i64 t365, .int .i64 t366, .int .i64 t367, .int .i64 t368, .int .i64 t369] 90 (0, 0))) := ⟨by rw [← hq_]; exact (by exact blk_nw BK373.out)⟩; have n9_ : Aside0 (w148.heap[gb382]? = some (.cells #[.slice Ao43 t417.length co43, .int .i64 t377, .int .i64 t378, .int .i64 t379, .int .i64 t380, .int .i64 t381] 90 (0, 0))) := ⟨by rw [← hq_]; exact (by exact blk_nw BK382.out)⟩; have n10_ : Aside0 (w148.heap[gb387]? = some (.cells #[.int .i64 t383, .slice Ao57 t419.length co57] 41 (0, 0))) := ⟨by rw [← hq_]; exact (by exact blk_nw BK387.out)⟩; have n11_ : Aside0 (w148.heap[gb399]? = some (.cells #[.slice Ao61 t388.length co61, .int .i64 t391, .int .i64 t392, .int .i64 t393, .int .i64 t394, .int .i64 t395] 90 (0, 0))) := ⟨by rw [← hq_]; exact (by exact blk_nw BK399.out)⟩; have n12_ : Aside0 (Below w.heap.size w w148) := ⟨by rw [← hq_]; exact (by exact bel0)⟩; clear HO_13 HO_374000 HO_383000 HO_388001 HO_400000 HO_9 BK346 BK347 BK373 BK382 BK387 BK399 HB hq_; have HO_13 := n0_; have HO_374000 := n1_; have HO_383000 := n2_; have HO_388001 := n3_; have HO_400000 := n4_; have HO_9 := n5_; have BK346 := n6_; have BK347 := n7_; have BK373 := n8_; have BK382 := n9_; have BK387 := n10_; have BK399 := n11_; have HB := n12_; clear n0_ n1_ n2_ n3_ n4_ n5_ n6_ n7_ n8_ n9_ n10_ n11_ n12_)); refine Stop.out ?_))
            refine Stop.mk ?_
            replace H := H.out
            by_cases c151 : t427 < 0
            ·rw [if_pos c151] at H; have c151b0 : decide (t427 < 0) = true := decide_eq_true c151; clear c151; (try simp only [c151b0])
             obtain rfl := Option.some.inj H
             go_wp2
             go_ret
             exact ⟨by first | rfl | (simp [errW_none, errW_some] <;> rfl) | (simp [*, errW_none, errW_some] <;> rfl), by exact bel0⟩
            ·rw [if_neg c151] at H; have c151b0 : decide (t427 < 0) = false := decide_eq_false c151; clear c151; (try simp only [c151b0])
             by_cases c152 : t427 = t424
             ·rw [if_pos c152] at H; have c152b0 : (t427 == t424) = true := beq_iff_eq.mpr c152; have c152b1 : (t427 != t424) = false := bne_eq_false_iff_eq.mpr c152; clear c152; replace H := Option.bind_eq_some_iff.mp H
              obtain ⟨⟨t428, t431, t432, t433, t434, t435⟩, A1530, H⟩ := H
              replace H : ((laws_toTable.f kj101 a1_0 l1_1).bind fun bt436 => ((impl_Helpers.f kj101 t428 t431 t432 t433 t434 t435 bt436.1 bt436.2 a2).bind fun bt440 => ((laws_eqProber.f kj101 bt440.1 bt440.2.1 bt440.2.2.1 bt440.2.2.2.1 bt440.2.2.2.2.1 bt440.2.2.2.2.2.1 t362 t365 t366 t367 t368 t369).bind fun t452 => (if t452 = true then ((laws_eqIntS.f kj101 bt440.2.2.2.2.2.2 t370).bind fun t453 => (laws_FnExactHelpers.j2 kj101 t425 t424 (!t453) t423 t391 t392 t393 t394 t395)) else (laws_FnExactHelpers.j2 kj101 t425 t424 true t423 t391 t392 t393 t394 t395))))) = some r := H
              have A153 := Aside0.mk A1530; clear A1530; replace H := Option.bind_eq_some_iff.mp H
              obtain ⟨⟨t436, t437⟩, A1540, H⟩ := H
              replace H : ((impl_Helpers.f kj101 t428 t431 t432 t433 t434 t435 t436 t437 a2).bind fun bt440 => ((laws_eqProber.f kj101 bt440.1 bt440.2.1 bt440.2.2.1 bt440.2.2.2.1 bt440.2.2.2.2.1 bt440.2.2.2.2.2.1 t362 t365 t366 t367 t368 t369).bind fun t452 => (if t452 = true then ((laws_eqIntS.f kj101 bt440.2.2.2.2.2.2 t370).bind fun t453 => (laws_FnExactHelpers.j2 kj101 t425 t424 (!t453) t423 t391 t392 t393 t394 t395)) else (laws_FnExactHelpers.j2 kj101 t425 t424 true t423 t391 t392 t393 t394 t395)))) = some r := H
              have A154 := Aside0.mk A1540; clear A1540; replace H := Option.bind_eq_some_iff.mp H
              obtain ⟨⟨t440, t443, t444, t445, t446, t447, t448⟩, A1550, H⟩ := H
              replace H : ((laws_eqProber.f kj101 t440 t443 t444 t445 t446 t447 t362 t365 t366 t367 t368 t369).bind fun t452 => (if t452 = true then ((laws_eqIntS.f kj101 t448 t370).bind fun t453 => (laws_FnExactHelpers.j2 kj101 t425 t424 (!t453) t423 t391 t392 t393 t394 t395)) else (laws_FnExactHelpers.j2 kj101 t425 t424 true t423 t391 t392 t393 t394 t395))) = some r := H
              have A155 := Aside0.mk A1550; clear A1550; have HC156 := Aside0.mk H; clear H
              try go_wp2
              have n_ := an (Kd.R_drew HO_9.out) (an (Kd.R_drew HO_13.out) (an (Kd.R_drew HO_374000.out) (an (Kd.R_drew HO_383000.out) (an (Kd.R_drew HO_388001.out) (an (Kd.R_drew HO_400000.out) (an (blk_drew BK346.out) (an (blk_drew BK347.out) (an (blk_drew BK373.out) (an (blk_drew BK382.out) (an (blk_drew BK387.out) (an (blk_drew BK399.out) (an (below_drew1 HB.out) (trivial)))))))))))))
              clear HO_9 HO_13 HO_374000 HO_383000 HO_388001 HO_400000 BK346 BK347 BK373 BK382 BK387 BK399 HB
              obtain ⟨HO_9, HO_13, HO_374000, HO_383000, HO_388001, HO_400000, BK346, BK347, BK373, BK382, BK387, BK399, HB, -⟩ := n_
              refine start_ (n := 12) (S := fun w' => w'.cell? ⟨gb346, 0, none⟩ = some (.slice A0_0 l0_0.length c0_0) ∧ w'.cell? ⟨gb346, 1, none⟩ = some (.int .i64 a0_1) ∧ w'.cell? ⟨gb346, 2, none⟩ = some (.int .i64 a0_2) ∧ w'.cell? ⟨gb346, 3, none⟩ = some (.int .i64 a0_3) ∧ w'.cell? ⟨gb346, 4, none⟩ = some (.int .i64 a0_4) ∧ w'.cell? ⟨gb346, 5, none⟩ = some (.int .i64 a0_5) ∧ w'.cell? ⟨gb347, 0, none⟩ = some (.int .i64 a1_0) ∧ w'.cell? ⟨gb347, 1, none⟩ = some (.slice A1_1 l1_1.length c1_1)) (ds := []) #[false, false, false, false, false, false, false, false, false, false, false, false] (by kernel_rfl) rfl rfl ⟨(blk_cell BK346.out 0).trans rfl, (blk_cell BK346.out 1).trans rfl, (blk_cell BK346.out 2).trans rfl, (blk_cell BK346.out 3).trans rfl, (blk_cell BK346.out 4).trans rfl, (blk_cell BK346.out 5).trans rfl, (blk_cell BK347.out 0).trans rfl, (blk_cell BK347.out 1).trans rfl⟩ (fun hHeld => ?_); refine with_tabW laws_FnExactHelpers.tab35 laws_FnExactHelpers.bits35 (fun HT_ HW_ => ?_)
              generalize w148.drew = w157 at HO_9 HO_13 HO_374000 HO_383000 HO_388001 HO_400000 BK346 BK347 BK373 BK382 BK387 BK399 HB hHeld ⊢
              refine pure_ (i := 4) (N := some 113) (v := ?_) (a' := ?_) #[false, false, false, false, true, false, false, false, false, false, false, false] rfl rfl (any_of HT_.out (by kernel_rfl)) (fun _ _ _ h => h) (Or.inl ⟨by rfl, ?_⟩) ?_ ?_
              rotate_left; · intro w'; go_simp; with_reducible rfl
              rotate_left; · simp only [Act.put, List.setIfInBounds_toArray, List.set_cons_zero, List.set_cons_succ, i64_w, i32_w]; rfl
              refine take_ (i := 0) (N := some 109) (v := ?_) (a' := ?_) #[true, false, false, false, true, false, false, false, false, false, false, false] rfl rfl (take_ofW HT_.out HW_.out (by kernel_rfl)) (fun _ _ _ h => h) (Or.inl ⟨by rfl, ?_⟩) hHeld ?_ ?_
              rotate_left
              ·rintro w' ⟨s0, s1, s2, s3, s4, s5, s6, s7⟩
               go_simp
               with_reducible rfl
              rotate_left; · simp only [Act.put, List.setIfInBounds_toArray, List.set_cons_zero, List.set_cons_succ, i64_w, i32_w]; rfl
              refine take_ (i := 2) (N := some 111) (v := ?_) (a' := ?_) #[true, false, true, false, true, false, false, false, false, false, false, false] rfl rfl (take_ofW HT_.out HW_.out (by kernel_rfl)) (fun _ _ _ h => h) (Or.inl ⟨by rfl, ?_⟩) hHeld ?_ ?_
              rotate_left
              ·rintro w' ⟨s0, s1, s2, s3, s4, s5, s6, s7⟩
               go_simp
               with_reducible rfl
              rotate_left; · simp only [Act.put, List.setIfInBounds_toArray, List.set_cons_zero, List.set_cons_succ, i64_w, i32_w]; rfl
              refine join_ (σ := Value × Value × Value × Value × Nat) 2 #[true, true, true, true, true, true, true, true, true, true, false, false] (fun s_ => [(110, .agg #[s_.1, .int .i64 t431, .int .i64 t432, .int .i64 t433, .int .i64 t434, .int .i64 t435]), (112, .agg #[.int .i64 t436, s_.2.1]), (114, .tuple #[.agg #[s_.2.2.1, .int .i64 t443, .int .i64 t444, .int .i64 t445, .int .i64 t446, .int .i64 t447], s_.2.2.2.1]), (17, .pointer (some ⟨s_.2.2.2.2, 0, none⟩)), (108, .tuple #[.agg #[s_.2.2.1, .int .i64 t443, .int .i64 t444, .int .i64 t445, .int .i64 t446, .int .i64 t447], s_.2.2.2.1]), (115, .agg #[s_.2.2.1, .int .i64 t443, .int .i64 t444, .int .i64 t445, .int .i64 t446, .int .i64 t447]), (116, s_.2.2.2.1)]) (fun s_ w' => (w'.cell? ⟨gb346, 0, none⟩ = some (.slice A0_0 l0_0.length c0_0) ∧ w'.cell? ⟨gb346, 1, none⟩ = some (.int .i64 a0_1) ∧ w'.cell? ⟨gb346, 2, none⟩ = some (.int .i64 a0_2) ∧ w'.cell? ⟨gb346, 3, none⟩ = some (.int .i64 a0_3) ∧ w'.cell? ⟨gb346, 4, none⟩ = some (.int .i64 a0_4) ∧ w'.cell? ⟨gb346, 5, none⟩ = some (.int .i64 a0_5) ∧ w'.cell? ⟨gb347, 0, none⟩ = some (.int .i64 a1_0) ∧ w'.cell? ⟨gb347, 1, none⟩ = some (.slice A1_1 l1_1.length c1_1)) ∧ (Kd.R (Kd.int .i64) 3 w' w.heap.size (fun k_ => some k_ ≠ (s_.2.2.1 : Value).ownBlock ∧ some k_ ≠ (s_.2.2.2.1 : Value).ownBlock ∧ some k_ ≠ (.slice Ao145 t396.length co145 : Value).ownBlock ∧ some k_ ≠ (.slice Ao31 t362.length co31 : Value).ownBlock ∧ some k_ ≠ (.slice Ao43 t417.length co43 : Value).ownBlock ∧ some k_ ≠ (.slice Ao61 t388.length co61 : Value).ownBlock ∧ some k_ ≠ (v371 : Value).ownBlock) s_.1 t428) ∧ (Kd.R k82 82 w' w.heap.size (fun k_ => some k_ ≠ (.slice Ao57 t419.length co57 : Value).ownBlock) s_.2.1 t437) ∧ (Kd.R (Kd.int .i64) 3 w' w.heap.size (fun k_ => some k_ ≠ (s_.1 : Value).ownBlock ∧ some k_ ≠ (s_.2.2.2.1 : Value).ownBlock ∧ some k_ ≠ (.slice Ao145 t396.length co145 : Value).ownBlock ∧ some k_ ≠ (.slice Ao31 t362.length co31 : Value).ownBlock ∧ some k_ ≠ (.slice Ao43 t417.length co43 : Value).ownBlock ∧ some k_ ≠ (.slice Ao61 t388.length co61 : Value).ownBlock ∧ some k_ ≠ (v371 : Value).ownBlock) s_.2.2.1 t440) ∧ (Kd.R (Kd.int .i64) 3 w' w.heap.size (fun k_ => some k_ ≠ (s_.1 : Value).ownBlock ∧ some k_ ≠ (s_.2.2.1 : Value).ownBlock ∧ some k_ ≠ (.slice Ao145 t396.length co145 : Value).ownBlock ∧ some k_ ≠ (.slice Ao31 t362.length co31 : Value).ownBlock ∧ some k_ ≠ (.slice Ao43 t417.length co43 : Value).ownBlock ∧ some k_ ≠ (.slice Ao61 t388.length co61 : Value).ownBlock ∧ some k_ ≠ (v371 : Value).ownBlock) s_.2.2.2.1 t448) ∧ (Kd.R (Kd.int .i64) 3 w' w.heap.size (fun k_ => some k_ ≠ (s_.1 : Value).ownBlock ∧ some k_ ≠ (s_.2.2.1 : Value).ownBlock ∧ some k_ ≠ (s_.2.2.2.1 : Value).ownBlock ∧ some k_ ≠ (.slice Ao31 t362.length co31 : Value).ownBlock ∧ some k_ ≠ (.slice Ao43 t417.length co43 : Value).ownBlock ∧ some k_ ≠ (.slice Ao61 t388.length co61 : Value).ownBlock ∧ some k_ ≠ (v371 : Value).ownBlock) (.slice Ao145 t396.length co145) t425) ∧ (Kd.R (Kd.int .i64) 3 w' w.heap.size (fun k_ => some k_ ≠ (s_.1 : Value).ownBlock ∧ some k_ ≠ (s_.2.2.1 : Value).ownBlock ∧ some k_ ≠ (s_.2.2.2.1 : Value).ownBlock ∧ some k_ ≠ (.slice Ao145 t396.length co145 : Value).ownBlock ∧ some k_ ≠ (.slice Ao43 t417.length co43 : Value).ownBlock ∧ some k_ ≠ (.slice Ao61 t388.length co61 : Value).ownBlock ∧ some k_ ≠ (v371 : Value).ownBlock) (.slice Ao31 t362.length co31) t362) ∧ (Kd.R (Kd.int .i64) 3 w' w.heap.size (fun k_ => some k_ ≠ (s_.1 : Value).ownBlock ∧ some k_ ≠ (s_.2.2.1 : Value).ownBlock ∧ some k_ ≠ (s_.2.2.2.1 : Value).ownBlock ∧ some k_ ≠ (.slice Ao145 t396.length co145 : Value).ownBlock ∧ some k_ ≠ (.slice Ao31 t362.length co31 : Value).ownBlock ∧ some k_ ≠ (.slice Ao61 t388.length co61 : Value).ownBlock ∧ some k_ ≠ (v371 : Value).ownBlock) (.slice Ao43 t417.length co43) t417) ∧ (Kd.R k82 82 w' w.heap.size (fun k_ => some k_ ≠ (s_.2.1 : Value).ownBlock) (.slice Ao57 t419.length co57) t419) ∧ (Kd.R (Kd.int .i64) 3 w' w.heap.size (fun k_ => some k_ ≠ (s_.1 : Value).ownBlock ∧ some k_ ≠ (s_.2.2.1 : Value).ownBlock ∧ some k_ ≠ (s_.2.2.2.1 : Value).ownBlock ∧ some k_ ≠ (.slice Ao145 t396.length co145 : Value).ownBlock ∧ some k_ ≠ (.slice Ao31 t362.length co31 : Value).ownBlock ∧ some k_ ≠ (.slice Ao43 t417.length co43 : Value).ownBlock ∧ some k_ ≠ (v371 : Value).ownBlock) (.slice Ao61 t388.length co61) t423) ∧ (Kd.R (Kd.int .i64) 3 w' w.heap.size (fun k_ => some k_ ≠ (s_.1 : Value).ownBlock ∧ some k_ ≠ (s_.2.2.1 : Value).ownBlock ∧ some k_ ≠ (s_.2.2.2.1 : Value).ownBlock ∧ some k_ ≠ (.slice Ao145 t396.length co145 : Value).ownBlock ∧ some k_ ≠ (.slice Ao31 t362.length co31 : Value).ownBlock ∧ some k_ ≠ (.slice Ao43 t417.length co43 : Value).ownBlock ∧ some k_ ≠ (.slice Ao61 t388.length co61 : Value).ownBlock) v371 t370) ∧ (w'.heap[gb346]? = some (.cells #[.slice A0_0 l0_0.length c0_0, .int .i64 a0_1, .int .i64 a0_2, .int .i64 a0_3, .int .i64 a0_4, .int .i64 a0_5] 88 (0, 0))) ∧ (w'.heap[gb347]? = some (.cells #[.int .i64 a1_0, .slice A1_1 l1_1.length c1_1] 37 (0, 0))) ∧ (w'.heap[gb373]? = some (.cells #[.slice Ao31 t362.length co31, .int .i64 t365, .int .i64 t366, .int .i64 t367, .int .i64 t368, .int .i64 t369] 90 (0, 0))) ∧ (w'.heap[gb382]? = some (.cells #[.slice Ao43 t417.length co43, .int .i64 t377, .int .i64 t378, .int .i64 t379, .int .i64 t380, .int .i64 t381] 90 (0, 0))) ∧ (w'.heap[gb387]? = some (.cells #[.int .i64 t383, .slice Ao57 t419.length co57] 41 (0, 0))) ∧ (w'.heap[gb399]? = some (.cells #[.slice Ao61 t388.length co61, .int .i64 t391, .int .i64 t392, .int .i64 t393, .int .i64 t394, .int .i64 t395] 90 (0, 0))) ∧ (w'.heap[s_.2.2.2.2]? = some (.cells #[.slice none 0 0, .int .i64 0, .int .i64 0, .int .i64 0, .int .i64 0, .int .i64 0] 90 (0, 0))) ∧ (w.heap.size ≤ s_.2.2.2.2) ∧ (w.heap.size ≤ s_.2.2.2.2) ∧ (gb346 ≠ s_.2.2.2.2) ∧ (s_.2.2.2.2 ≠ gb346) ∧ (gb347 ≠ s_.2.2.2.2) ∧ (s_.2.2.2.2 ≠ gb347) ∧ (gb373 ≠ s_.2.2.2.2) ∧ (s_.2.2.2.2 ≠ gb373) ∧ (gb382 ≠ s_.2.2.2.2) ∧ (s_.2.2.2.2 ≠ gb382) ∧ (gb387 ≠ s_.2.2.2.2) ∧ (s_.2.2.2.2 ≠ gb387) ∧ (gb399 ≠ s_.2.2.2.2) ∧ (s_.2.2.2.2 ≠ gb399) ∧ (Below w.heap.size w w')) ?_ ?_
              rotate_left
              ·intro hCont
               refine two_ (i := 1) (j := 9) (Ni := some 110) (Nj := some 17) #[true, true, true, false, true, false, false, false, false, false, false, false] #[true, false, true, false, true, false, false, false, false, true, false, false] rfl rfl rfl rfl (two_of HT_.out (by kernel_rfl)) (by decide) (by decide) (fun K hK => ?_) (fun K hK => ?_)
               ·skip
                refine goes_ Try.func58 (by kernel_rfl) rfl #[.agg #[.slice A0_0 l0_0.length c0_0, .int .i64 a0_1, .int .i64 a0_2, .int .i64 a0_3, .int .i64 a0_4, .int .i64 a0_5]] (by rfl) rfl rfl (by (try simp only [List.map_toArray, List.map_cons, List.map_nil]); first | done | rfl | (simp only [List.length_drop, List.length_take]; rfl)) ?_
                with_reducible refine (laws_toProber.calls kj101 _ _ l0_0 a0_1 a0_2 a0_3 a0_4 a0_5 t428 t431 t432 t433 t434 t435 _ ?side1 ?side2 A153.out).mono ?_
                (case side1 => repeat (first | exact (Kd.C_below HR0_0.out HB.out) | (with_reducible refine Kd.C_alloc ?_ _) | (with_reducible refine Kd.C_drewN ?_ _) | (with_reducible refine Kd.C_drew ?_)))
                (case side2 => exact HC0_0.out)
                rintro e w158 ⟨v429, rfl, ho0, hb⟩
                refine ⟨_, rfl, ?_⟩
                have n_ := an (Kd.R_elder' (by exact Kd.R_nw HO_9.out) (Kd.R_base ho0) hb) (an (Kd.R_elder' (by exact Kd.R_nw HO_13.out) (Kd.R_base ho0) hb) (an (Kd.R_elder' (by exact Kd.R_nw HO_374000.out) (Kd.R_base ho0) hb) (an (Kd.R_elder' (by exact Kd.R_nw HO_383000.out) (Kd.R_base ho0) hb) (an (Kd.R_below (by exact Kd.R_nw HO_388001.out) hb) (an (Kd.R_elder' (by exact Kd.R_nw HO_400000.out) (Kd.R_base ho0) hb) (an (Kd.R_lower (Kd.R_new' (Kd.R_new' (Kd.R_new' (Kd.R_new' (Kd.R_new' ho0 (Kd.R_lt (by exact Kd.R_nw HO_9.out))) (Kd.R_lt (by exact Kd.R_nw HO_13.out))) (Kd.R_lt (by exact Kd.R_nw HO_374000.out))) (Kd.R_lt (by exact Kd.R_nw HO_383000.out))) (Kd.R_lt (by exact Kd.R_nw HO_400000.out))) (below_size (by exact bel0))) (an (blk_below (blk_nw BK346.out) hb) (an (blk_below (blk_nw BK347.out) hb) (an (blk_below (blk_nw BK373.out) hb) (an (blk_below (blk_nw BK382.out) hb) (an (blk_below (blk_nw BK387.out) hb) (an (blk_below (blk_nw BK399.out) hb) (an (below_step (by exact bel0) hb) (trivial))))))))))))))
                clear HO_9 HO_13 HO_374000 HO_383000 HO_388001 HO_400000 BK346 BK347 BK373 BK382 BK387 BK399 HB
                obtain ⟨HO_9, HO_13, HO_374000, HO_383000, HO_388001, HO_400000, HO430, BK346, BK347, BK373, BK382, BK387, BK399, HB, -⟩ := n_
                (try clear hb); (try clear hb2); (try clear hk); (try clear hi); (try clear ho0)
                refine hK.out _ _ ⟨(blk_cell BK346.out 0).trans rfl, (blk_cell BK346.out 1).trans rfl, (blk_cell BK346.out 2).trans rfl, (blk_cell BK346.out 3).trans rfl, (blk_cell BK346.out 4).trans rfl, (blk_cell BK346.out 5).trans rfl, (blk_cell BK347.out 0).trans rfl, (blk_cell BK347.out 1).trans rfl⟩ (fun hHeld => ?_)
                clear hK K
                refine norm_ (a' := ?_) ?_ ?_
                rotate_left
                ·show Act.put _ (some 110) _ = _
                 simp only [Act.put, List.setIfInBounds_toArray, List.set_cons_zero, List.set_cons_succ, i64_w, i32_w]
                 rfl
                refine two_ (i := 3) (j := 9) (Ni := some 112) (Nj := some 17) #[true, true, true, true, true, false, false, false, false, false, false, false] #[true, true, true, false, true, false, false, false, false, true, false, false] rfl rfl rfl rfl (two_of HT_.out (by kernel_rfl)) (by decide) (by decide) (fun K hK => ?_) (fun K hK => ?_)
                ·skip
                 refine goes_ Try.func25 (by kernel_rfl) rfl #[.agg #[.int .i64 a1_0, .slice A1_1 l1_1.length c1_1]] (by rfl) rfl rfl (by (try simp only [List.map_toArray, List.map_cons, List.map_nil]); first | done | rfl | (simp only [List.length_drop, List.length_take]; rfl)) ?_
                 with_reducible refine (laws_toTable.calls kj101 a1_0 _ _ l1_1 t436 t437 _ ?side1 ?side2 A154.out).mono ?_
                 (case side1 => repeat (first | exact (Kd.C_below HR1_1.out HB.out) | (with_reducible refine Kd.C_alloc ?_ _) | (with_reducible refine Kd.C_drewN ?_ _) | (with_reducible refine Kd.C_drew ?_)))
                 (case side2 => exact HC1_1.out)
                 rintro e w159 ⟨v438, rfl, ho0, hb⟩
                 refine ⟨_, rfl, ?_⟩
                 have n_ := an (Kd.R_below (by exact Kd.R_nw HO_9.out) hb) (an (Kd.R_below (by exact Kd.R_nw HO_13.out) hb) (an (Kd.R_below (by exact Kd.R_nw HO_374000.out) hb) (an (Kd.R_below (by exact Kd.R_nw HO_383000.out) hb) (an (Kd.R_elder' (by exact Kd.R_nw HO_388001.out) (Kd.R_base ho0) hb) (an (Kd.R_below (by exact Kd.R_nw HO_400000.out) hb) (an (Kd.R_below (by exact Kd.R_nw HO430.out) hb) (an (Kd.R_lower (Kd.R_new' ho0 (Kd.R_lt (by exact Kd.R_nw HO_388001.out))) (below_size (by exact bel0))) (an (blk_below (blk_nw BK346.out) hb) (an (blk_below (blk_nw BK347.out) hb) (an (blk_below (blk_nw BK373.out) hb) (an (blk_below (blk_nw BK382.out) hb) (an (blk_below (blk_nw BK387.out) hb) (an (blk_below (blk_nw BK399.out) hb) (an (below_step (by exact bel0) hb) (trivial)))))))))))))))
                 clear HO_9 HO_13 HO_374000 HO_383000 HO_388001 HO_400000 HO430 BK346 BK347 BK373 BK382 BK387 BK399 HB
                 obtain ⟨HO_9, HO_13, HO_374000, HO_383000, HO_388001, HO_400000, HO430, HO439, BK346, BK347, BK373, BK382, BK387, BK399, HB, -⟩ := n_
                 (try clear hb); (try clear hb2); (try clear hk); (try clear hi); (try clear ho0)
                 obtain ⟨Ao160, co160, eo160⟩ := Kd.R_slice HO430.out
                 (first | subst eo160 | (injection eo160 with f1_ f2_ f3_; have f4_ := f1_.symm; have f5_ := f3_.symm; clear f1_ f2_ f3_; subst f4_; subst f5_))
                 obtain ⟨Ao161, co161, eo161⟩ := Kd.R_slice HO439.out
                 (first | subst eo161 | (injection eo161 with f1_ f2_ f3_; have f4_ := f1_.symm; have f5_ := f3_.symm; clear f1_ f2_ f3_; subst f4_; subst f5_))
                 refine hK.out _ _ ⟨(blk_cell BK346.out 0).trans rfl, (blk_cell BK346.out 1).trans rfl, (blk_cell BK346.out 2).trans rfl, (blk_cell BK346.out 3).trans rfl, (blk_cell BK346.out 4).trans rfl, (blk_cell BK346.out 5).trans rfl, (blk_cell BK347.out 0).trans rfl, (blk_cell BK347.out 1).trans rfl⟩ (fun hHeld => ?_)
                 clear hK K
                 refine norm_ (a' := ?_) ?_ ?_
                 rotate_left
                 ·show Act.put _ (some 112) _ = _
                  simp only [Act.put, List.setIfInBounds_toArray, List.set_cons_zero, List.set_cons_succ, i64_w, i32_w]
                  rfl
                 refine two_ (i := 5) (j := 9) (Ni := some 114) (Nj := some 17) #[true, true, true, true, true, true, false, false, false, false, false, false] #[true, true, true, true, true, false, false, false, false, true, false, false] rfl rfl rfl rfl (two_of HT_.out (by kernel_rfl)) (by decide) (by decide) (fun K hK => ?_) (fun K hK => ?_)
                 ·skip
                  refine goes_ Try.func59 (by kernel_rfl) rfl #[.agg #[.slice Ao160 t428.length co160, .int .i64 t431, .int .i64 t432, .int .i64 t433, .int .i64 t434, .int .i64 t435], .agg #[.int .i64 t436, .slice Ao161 t437.length co161], .int .i64 a2] (by rfl) rfl rfl (by (try simp only [List.map_toArray, List.map_cons, List.map_nil]); first | done | rfl | (simp only [List.length_drop, List.length_take]; rfl)) ?_
                  with_reducible refine (impl_Helpers.calls kj101 _ _ t428 t431 t432 t433 t434 t435 t436 _ _ t437 a2 t440 t443 t444 t445 t446 t447 t448 _ ?side1 ?side2 ?side3 ?side4 A155.out).mono ?_
                  (case side1 => repeat (first | exact (Kd.R_reads' HO430.out).2.2 | (with_reducible refine Kd.C_alloc ?_ _) | (with_reducible refine Kd.C_drewN ?_ _) | (with_reducible refine Kd.C_drew ?_)))
                  (case side2 => exact (Kd.R_reads' HO430.out).2.1)
                  (case side3 => repeat (first | exact (Kd.R_reads' HO439.out).2.2 | (with_reducible refine Kd.C_alloc ?_ _) | (with_reducible refine Kd.C_drewN ?_ _) | (with_reducible refine Kd.C_drew ?_)))
                  (case side4 => exact (Kd.R_reads' HO439.out).2.1)
                  rintro e w162 ⟨v441, v449, rfl, ho0, ho1, hb⟩
                  refine ⟨_, rfl, ?_⟩
                  have n_ := an (Kd.R_mono (Kd.R_told (Kd.R_told (Kd.R_old (by exact Kd.R_nw HO_9.out) hb) (Kd.R_base ho0)) (Kd.R_base ho1)) (fun _ h_ => h_.1)) (an (Kd.R_mono (Kd.R_told (Kd.R_told (Kd.R_old (by exact Kd.R_nw HO_13.out) hb) (Kd.R_base ho0)) (Kd.R_base ho1)) (fun _ h_ => h_.1)) (an (Kd.R_mono (Kd.R_told (Kd.R_told (Kd.R_old (by exact Kd.R_nw HO_374000.out) hb) (Kd.R_base ho0)) (Kd.R_base ho1)) (fun _ h_ => h_.1)) (an (Kd.R_mono (Kd.R_told (Kd.R_told (Kd.R_old (by exact Kd.R_nw HO_383000.out) hb) (Kd.R_base ho0)) (Kd.R_base ho1)) (fun _ h_ => h_.1)) (an (Kd.R_below (by exact Kd.R_nw HO_388001.out) hb) (an (Kd.R_mono (Kd.R_told (Kd.R_told (Kd.R_old (by exact Kd.R_nw HO_400000.out) hb) (Kd.R_base ho0)) (Kd.R_base ho1)) (fun _ h_ => h_.1)) (an (Kd.R_mono (Kd.R_told (Kd.R_told (Kd.R_old (by exact Kd.R_nw HO430.out) hb) (Kd.R_base ho0)) (Kd.R_base ho1)) (fun _ h_ => h_.1)) (an (Kd.R_below (by exact Kd.R_nw HO439.out) hb) (an (Kd.R_lower (Kd.R_new' (Kd.R_new' (Kd.R_new' (Kd.R_new' (Kd.R_new' (Kd.R_new' ho0 (Kd.R_lt (by exact Kd.R_nw HO_9.out))) (Kd.R_lt (by exact Kd.R_nw HO_13.out))) (Kd.R_lt (by exact Kd.R_nw HO_374000.out))) (Kd.R_lt (by exact Kd.R_nw HO_383000.out))) (Kd.R_lt (by exact Kd.R_nw HO_400000.out))) (Kd.R_lt (by exact Kd.R_nw HO430.out))) (below_size (by exact bel0))) (an (Kd.R_lower (Kd.R_new' (Kd.R_new' (Kd.R_new' (Kd.R_new' (Kd.R_new' (Kd.R_new' ho1 (Kd.R_lt (by exact Kd.R_nw HO_9.out))) (Kd.R_lt (by exact Kd.R_nw HO_13.out))) (Kd.R_lt (by exact Kd.R_nw HO_374000.out))) (Kd.R_lt (by exact Kd.R_nw HO_383000.out))) (Kd.R_lt (by exact Kd.R_nw HO_400000.out))) (Kd.R_lt (by exact Kd.R_nw HO430.out))) (below_size (by exact bel0))) (an (blk_below (blk_nw BK346.out) hb) (an (blk_below (blk_nw BK347.out) hb) (an (blk_below (blk_nw BK373.out) hb) (an (blk_below (blk_nw BK382.out) hb) (an (blk_below (blk_nw BK387.out) hb) (an (blk_below (blk_nw BK399.out) hb) (an (below_step (by exact bel0) hb) (trivial)))))))))))))))))
                  clear HO_9 HO_13 HO_374000 HO_383000 HO_388001 HO_400000 HO430 HO439 BK346 BK347 BK373 BK382 BK387 BK399 HB
                  obtain ⟨HO_9, HO_13, HO_374000, HO_383000, HO_388001, HO_400000, HO430, HO439, HO442, HO450, BK346, BK347, BK373, BK382, BK387, BK399, HB, -⟩ := n_
                  (try clear hb); (try clear hb2); (try clear hk); (try clear hi); (try clear ho0); (try clear ho1)
                  refine hK.out _ _ ⟨(blk_cell BK346.out 0).trans rfl, (blk_cell BK346.out 1).trans rfl, (blk_cell BK346.out 2).trans rfl, (blk_cell BK346.out 3).trans rfl, (blk_cell BK346.out 4).trans rfl, (blk_cell BK346.out 5).trans rfl, (blk_cell BK347.out 0).trans rfl, (blk_cell BK347.out 1).trans rfl⟩ (fun hHeld => ?_)
                  clear hK K
                  refine norm_ (a' := ?_) ?_ ?_
                  rotate_left
                  ·show Act.put _ (some 114) _ = _
                   simp only [Act.put, List.setIfInBounds_toArray, List.set_cons_zero, List.set_cons_succ, i64_w, i32_w]
                   rfl
                  refine pure_ (i := 6) (N := some 108) (v := ?_) (a' := ?_) #[true, true, true, true, true, true, true, false, false, false, false, false] rfl rfl (any_of HT_.out (by kernel_rfl)) (fun _ _ _ h => h) (Or.inl ⟨by rfl, ?_⟩) ?_ ?_
                  rotate_left; · intro w'; go_simp; with_reducible rfl
                  rotate_left; · simp only [Act.put, List.setIfInBounds_toArray, List.set_cons_zero, List.set_cons_succ, i64_w, i32_w]; rfl
                  refine pure_ (i := 7) (N := some 115) (v := ?_) (a' := ?_) #[true, true, true, true, true, true, true, true, false, false, false, false] rfl rfl (any_of HT_.out (by kernel_rfl)) (fun _ _ _ h => h) (Or.inl ⟨by rfl, ?_⟩) ?_ ?_
                  rotate_left; · intro w'; go_simp; with_reducible rfl
                  rotate_left; · simp only [Act.put, List.setIfInBounds_toArray, List.set_cons_zero, List.set_cons_succ, i64_w, i32_w]; rfl
                  refine pure_ (i := 8) (N := some 116) (v := ?_) (a' := ?_) #[true, true, true, true, true, true, true, true, true, false, false, false] rfl rfl (any_of HT_.out (by kernel_rfl)) (fun _ _ _ h => h) (Or.inl ⟨by rfl, ?_⟩) ?_ ?_
                  rotate_left; · intro w'; go_simp; with_reducible rfl
                  rotate_left; · simp only [Act.put, List.setIfInBounds_toArray, List.set_cons_zero, List.set_cons_succ, i64_w, i32_w]; rfl
                  refine one_ (i := 9) (N := some 17) #[true, true, true, true, true, true, true, true, true, true, false, false] rfl rfl (one_of HT_.out (by kernel_rfl)) (by decide) (fun K hK => ?_)
                  refine box_step ?hg (N := 17) ?hd (cs := #[.slice none 0 0, .int .i64 0, .int .i64 0, .int .i64 0, .int .i64 0, .int .i64 0]) (t := 90) ?hr ?_; (case hd => rfl); (case hg => rfl); (case hr => first | (go_simp; done) | (go_simp; rfl))
                  intro gb451 hg w163 hbox hb
                  have n_ := an (Kd.R_below (by exact Kd.R_nw HO_9.out) hb) (an (Kd.R_below (by exact Kd.R_nw HO_13.out) hb) (an (Kd.R_below (by exact Kd.R_nw HO_374000.out) hb) (an (Kd.R_below (by exact Kd.R_nw HO_383000.out) hb) (an (Kd.R_below (by exact Kd.R_nw HO_388001.out) hb) (an (Kd.R_below (by exact Kd.R_nw HO_400000.out) hb) (an (Kd.R_below (by exact Kd.R_nw HO430.out) hb) (an (Kd.R_below (by exact Kd.R_nw HO439.out) hb) (an (Kd.R_below (by exact Kd.R_nw HO442.out) hb) (an (Kd.R_below (by exact Kd.R_nw HO450.out) hb) (an (blk_below (blk_nw BK346.out) hb) (an (blk_below (blk_nw BK347.out) hb) (an (blk_below (blk_nw BK373.out) hb) (an (blk_below (blk_nw BK382.out) hb) (an (blk_below (blk_nw BK387.out) hb) (an (blk_below (blk_nw BK399.out) hb) (an (below_step (by exact bel0) hb) (an (hbox) (an ((by rw [hg]; exact (below_size (by exact bel0)) : w.heap.size ≤ gb451)) (an ((by rw [hg]; exact (below_size (by exact bel0)) : w.heap.size ≤ gb451)) (an ((by rw [hg]; exact Nat.ne_of_lt (blk_lt (blk_nw BK346.out)) : gb346 ≠ gb451)) (an ((by rw [hg]; exact Nat.ne_of_gt (blk_lt (blk_nw BK346.out)) : gb451 ≠ gb346)) (an ((by rw [hg]; exact Nat.ne_of_lt (blk_lt (blk_nw BK347.out)) : gb347 ≠ gb451)) (an ((by rw [hg]; exact Nat.ne_of_gt (blk_lt (blk_nw BK347.out)) : gb451 ≠ gb347)) (an ((by rw [hg]; exact Nat.ne_of_lt (blk_lt (blk_nw BK373.out)) : gb373 ≠ gb451)) (an ((by rw [hg]; exact Nat.ne_of_gt (blk_lt (blk_nw BK373.out)) : gb451 ≠ gb373)) (an ((by rw [hg]; exact Nat.ne_of_lt (blk_lt (blk_nw BK382.out)) : gb382 ≠ gb451)) (an ((by rw [hg]; exact Nat.ne_of_gt (blk_lt (blk_nw BK382.out)) : gb451 ≠ gb382)) (an ((by rw [hg]; exact Nat.ne_of_lt (blk_lt (blk_nw BK387.out)) : gb387 ≠ gb451)) (an ((by rw [hg]; exact Nat.ne_of_gt (blk_lt (blk_nw BK387.out)) : gb451 ≠ gb387)) (an ((by rw [hg]; exact Nat.ne_of_lt (blk_lt (blk_nw BK399.out)) : gb399 ≠ gb451)) (an ((by rw [hg]; exact Nat.ne_of_gt (blk_lt (blk_nw BK399.out)) : gb451 ≠ gb399)) (trivial))))))))))))))))))))))))))))))))
                  clear HO_9 HO_13 HO_374000 HO_383000 HO_388001 HO_400000 HO430 HO439 HO442 HO450 BK346 BK347 BK373 BK382 BK387 BK399 HB
                  obtain ⟨HO_9, HO_13, HO_374000, HO_383000, HO_388001, HO_400000, HO430, HO439, HO442, HO450, BK346, BK347, BK373, BK382, BK387, BK399, HB, BK451, GW451, GE451, NB346_451, NB451_346, NB347_451, NB451_347, NB373_451, NB451_373, NB382_451, NB451_382, NB387_451, NB451_387, NB399_451, NB451_399, -⟩ := n_
                  clear hb hbox hg
                  refine hK.out _ _ ⟨(blk_cell BK346.out 0).trans rfl, (blk_cell BK346.out 1).trans rfl, (blk_cell BK346.out 2).trans rfl, (blk_cell BK346.out 3).trans rfl, (blk_cell BK346.out 4).trans rfl, (blk_cell BK346.out 5).trans rfl, (blk_cell BK347.out 0).trans rfl, (blk_cell BK347.out 1).trans rfl⟩ (fun hHeld => ?_)
                  clear hK K
                  refine norm_ (a' := ?_) ?_ ?_
                  rotate_left
                  ·show Act.put _ (some 17) _ = _
                   simp only [Act.put, List.setIfInBounds_toArray, List.set_cons_zero, List.set_cons_succ, i64_w, i32_w]
                   rfl
                  exact norm_ (by simp only [putAll, Act.put, List.setIfInBounds_toArray, List.set_cons_zero, List.set_cons_succ]) (hCont (.slice Ao160 t428.length co160, .slice Ao161 t437.length co161, v441, v449, gb451) _ ⟨hHeld, (by exact Kd.R_nw (Kd.R_mono HO430.out (fun _ hk => by simp only [hk, ne_eq, not_false_eq_true, and_self]))), (by exact Kd.R_nw (Kd.R_mono HO439.out (fun _ hk => hk.2))), (by exact Kd.R_nw (Kd.R_mono HO442.out (fun _ hk => by simp only [hk, ne_eq, not_false_eq_true, and_self]))), (by exact Kd.R_nw (Kd.R_mono HO450.out (fun _ hk => by simp only [hk, ne_eq, not_false_eq_true, and_self]))), (by exact Kd.R_nw (Kd.R_mono HO_13.out (fun _ hk => by simp only [hk, ne_eq, not_false_eq_true, and_self]))), (by exact Kd.R_nw (Kd.R_mono HO_374000.out (fun _ hk => by simp only [hk, ne_eq, not_false_eq_true, and_self]))), (by exact Kd.R_nw (Kd.R_mono HO_383000.out (fun _ hk => by simp only [hk, ne_eq, not_false_eq_true, and_self]))), (by exact Kd.R_nw (Kd.R_mono HO_388001.out (fun _ hk => hk.2))), (by exact Kd.R_nw (Kd.R_mono HO_400000.out (fun _ hk => by simp only [hk, ne_eq, not_false_eq_true, and_self]))), (by exact Kd.R_nw (Kd.R_mono HO_9.out (fun _ hk => by simp only [hk, ne_eq, not_false_eq_true, and_self]))), (by exact blk_nw BK346.out), (by exact blk_nw BK347.out), (by exact blk_nw BK373.out), (by exact blk_nw BK382.out), (by exact blk_nw BK387.out), (by exact blk_nw BK399.out), (by exact blk_nw BK451.out), GW451.out, GE451.out, NB346_451.out, NB451_346.out, NB347_451.out, NB451_347.out, NB373_451.out, NB451_373.out, NB382_451.out, NB451_382.out, NB387_451.out, NB451_387.out, NB399_451.out, NB451_399.out, (by exact bel0)⟩)
                 ·skip
                  refine box_step ?hg (N := 17) ?hd (cs := #[.slice none 0 0, .int .i64 0, .int .i64 0, .int .i64 0, .int .i64 0, .int .i64 0]) (t := 90) ?hr ?_; (case hd => rfl); (case hg => rfl); (case hr => first | (go_simp; done) | (go_simp; rfl))
                  intro gb451 hg w160 hbox hb
                  have n_ := an (Kd.R_below (by exact Kd.R_nw HO_9.out) hb) (an (Kd.R_below (by exact Kd.R_nw HO_13.out) hb) (an (Kd.R_below (by exact Kd.R_nw HO_374000.out) hb) (an (Kd.R_below (by exact Kd.R_nw HO_383000.out) hb) (an (Kd.R_below (by exact Kd.R_nw HO_388001.out) hb) (an (Kd.R_below (by exact Kd.R_nw HO_400000.out) hb) (an (Kd.R_below (by exact Kd.R_nw HO430.out) hb) (an (Kd.R_below (by exact Kd.R_nw HO439.out) hb) (an (blk_below (blk_nw BK346.out) hb) (an (blk_below (blk_nw BK347.out) hb) (an (blk_below (blk_nw BK373.out) hb) (an (blk_below (blk_nw BK382.out) hb) (an (blk_below (blk_nw BK387.out) hb) (an (blk_below (blk_nw BK399.out) hb) (an (below_step (by exact bel0) hb) (an (hbox) (an ((by rw [hg]; exact (below_size (by exact bel0)) : w.heap.size ≤ gb451)) (an ((by rw [hg]; exact (below_size (by exact bel0)) : w.heap.size ≤ gb451)) (an ((by rw [hg]; exact Nat.ne_of_lt (blk_lt (blk_nw BK346.out)) : gb346 ≠ gb451)) (an ((by rw [hg]; exact Nat.ne_of_gt (blk_lt (blk_nw BK346.out)) : gb451 ≠ gb346)) (an ((by rw [hg]; exact Nat.ne_of_lt (blk_lt (blk_nw BK347.out)) : gb347 ≠ gb451)) (an ((by rw [hg]; exact Nat.ne_of_gt (blk_lt (blk_nw BK347.out)) : gb451 ≠ gb347)) (an ((by rw [hg]; exact Nat.ne_of_lt (blk_lt (blk_nw BK373.out)) : gb373 ≠ gb451)) (an ((by rw [hg]; exact Nat.ne_of_gt (blk_lt (blk_nw BK373.out)) : gb451 ≠ gb373)) (an ((by rw [hg]; exact Nat.ne_of_lt (blk_lt (blk_nw BK382.out)) : gb382 ≠ gb451)) (an ((by rw [hg]; exact Nat.ne_of_gt (blk_lt (blk_nw BK382.out)) : gb451 ≠ gb382)) (an ((by rw [hg]; exact Nat.ne_of_lt (blk_lt (blk_nw BK387.out)) : gb387 ≠ gb451)) (an ((by rw [hg]; exact Nat.ne_of_gt (blk_lt (blk_nw BK387.out)) : gb451 ≠ gb387)) (an ((by rw [hg]; exact Nat.ne_of_lt (blk_lt (blk_nw BK399.out)) : gb399 ≠ gb451)) (an ((by rw [hg]; exact Nat.ne_of_gt (blk_lt (blk_nw BK399.out)) : gb451 ≠ gb399)) (trivial))))))))))))))))))))))))))))))
                  clear HO_9 HO_13 HO_374000 HO_383000 HO_388001 HO_400000 HO430 HO439 BK346 BK347 BK373 BK382 BK387 BK399 HB
                  obtain ⟨HO_9, HO_13, HO_374000, HO_383000, HO_388001, HO_400000, HO430, HO439, BK346, BK347, BK373, BK382, BK387, BK399, HB, BK451, GW451, GE451, NB346_451, NB451_346, NB347_451, NB451_347, NB373_451, NB451_373, NB382_451, NB451_382, NB387_451, NB451_387, NB399_451, NB451_399, -⟩ := n_
                  clear hb hbox hg
                  obtain ⟨Ao161, co161, eo161⟩ := Kd.R_slice HO430.out
                  (first | subst eo161 | (injection eo161 with f1_ f2_ f3_; have f4_ := f1_.symm; have f5_ := f3_.symm; clear f1_ f2_ f3_; subst f4_; subst f5_))
                  obtain ⟨Ao162, co162, eo162⟩ := Kd.R_slice HO439.out
                  (first | subst eo162 | (injection eo162 with f1_ f2_ f3_; have f4_ := f1_.symm; have f5_ := f3_.symm; clear f1_ f2_ f3_; subst f4_; subst f5_))
                  refine hK.out _ _ ⟨(blk_cell BK346.out 0).trans rfl, (blk_cell BK346.out 1).trans rfl, (blk_cell BK346.out 2).trans rfl, (blk_cell BK346.out 3).trans rfl, (blk_cell BK346.out 4).trans rfl, (blk_cell BK346.out 5).trans rfl, (blk_cell BK347.out 0).trans rfl, (blk_cell BK347.out 1).trans rfl⟩ (fun hHeld => ?_)
                  clear hK K
                  refine norm_ (a' := ?_) ?_ ?_
                  rotate_left
                  ·show Act.put _ (some 17) _ = _
                   simp only [Act.put, List.setIfInBounds_toArray, List.set_cons_zero, List.set_cons_succ, i64_w, i32_w]
                   rfl
                  refine one_ (i := 5) (N := some 114) #[true, true, true, true, true, true, false, false, false, true, false, false] rfl rfl (one_of HT_.out (by kernel_rfl)) (by decide) (fun K hK => ?_)
                  refine goes_ Try.func59 (by kernel_rfl) rfl #[.agg #[.slice Ao161 t428.length co161, .int .i64 t431, .int .i64 t432, .int .i64 t433, .int .i64 t434, .int .i64 t435], .agg #[.int .i64 t436, .slice Ao162 t437.length co162], .int .i64 a2] (by rfl) rfl rfl (by (try simp only [List.map_toArray, List.map_cons, List.map_nil]); first | done | rfl | (simp only [List.length_drop, List.length_take]; rfl)) ?_
                  with_reducible refine (impl_Helpers.calls kj101 _ _ t428 t431 t432 t433 t434 t435 t436 _ _ t437 a2 t440 t443 t444 t445 t446 t447 t448 _ ?side1 ?side2 ?side3 ?side4 A155.out).mono ?_
                  (case side1 => repeat (first | exact (Kd.R_reads' HO430.out).2.2 | (with_reducible refine Kd.C_alloc ?_ _) | (with_reducible refine Kd.C_drewN ?_ _) | (with_reducible refine Kd.C_drew ?_)))
                  (case side2 => exact (Kd.R_reads' HO430.out).2.1)
                  (case side3 => repeat (first | exact (Kd.R_reads' HO439.out).2.2 | (with_reducible refine Kd.C_alloc ?_ _) | (with_reducible refine Kd.C_drewN ?_ _) | (with_reducible refine Kd.C_drew ?_)))
                  (case side4 => exact (Kd.R_reads' HO439.out).2.1)
                  rintro e w163 ⟨v441, v449, rfl, ho0, ho1, hb⟩
                  refine ⟨_, rfl, ?_⟩
                  have n_ := an (Kd.R_mono (Kd.R_told (Kd.R_told (Kd.R_old (by exact Kd.R_nw HO_9.out) hb) (Kd.R_base ho0)) (Kd.R_base ho1)) (fun _ h_ => h_.1)) (an (Kd.R_mono (Kd.R_told (Kd.R_told (Kd.R_old (by exact Kd.R_nw HO_13.out) hb) (Kd.R_base ho0)) (Kd.R_base ho1)) (fun _ h_ => h_.1)) (an (Kd.R_mono (Kd.R_told (Kd.R_told (Kd.R_old (by exact Kd.R_nw HO_374000.out) hb) (Kd.R_base ho0)) (Kd.R_base ho1)) (fun _ h_ => h_.1)) (an (Kd.R_mono (Kd.R_told (Kd.R_told (Kd.R_old (by exact Kd.R_nw HO_383000.out) hb) (Kd.R_base ho0)) (Kd.R_base ho1)) (fun _ h_ => h_.1)) (an (Kd.R_below (by exact Kd.R_nw HO_388001.out) hb) (an (Kd.R_mono (Kd.R_told (Kd.R_told (Kd.R_old (by exact Kd.R_nw HO_400000.out) hb) (Kd.R_base ho0)) (Kd.R_base ho1)) (fun _ h_ => h_.1)) (an (Kd.R_mono (Kd.R_told (Kd.R_told (Kd.R_old (by exact Kd.R_nw HO430.out) hb) (Kd.R_base ho0)) (Kd.R_base ho1)) (fun _ h_ => h_.1)) (an (Kd.R_below (by exact Kd.R_nw HO439.out) hb) (an (Kd.R_lower (Kd.R_new' (Kd.R_new' (Kd.R_new' (Kd.R_new' (Kd.R_new' (Kd.R_new' ho0 (Kd.R_lt (by exact Kd.R_nw HO_9.out))) (Kd.R_lt (by exact Kd.R_nw HO_13.out))) (Kd.R_lt (by exact Kd.R_nw HO_374000.out))) (Kd.R_lt (by exact Kd.R_nw HO_383000.out))) (Kd.R_lt (by exact Kd.R_nw HO_400000.out))) (Kd.R_lt (by exact Kd.R_nw HO430.out))) (below_size (by exact bel0))) (an (Kd.R_lower (Kd.R_new' (Kd.R_new' (Kd.R_new' (Kd.R_new' (Kd.R_new' (Kd.R_new' ho1 (Kd.R_lt (by exact Kd.R_nw HO_9.out))) (Kd.R_lt (by exact Kd.R_nw HO_13.out))) (Kd.R_lt (by exact Kd.R_nw HO_374000.out))) (Kd.R_lt (by exact Kd.R_nw HO_383000.out))) (Kd.R_lt (by exact Kd.R_nw HO_400000.out))) (Kd.R_lt (by exact Kd.R_nw HO430.out))) (below_size (by exact bel0))) (an (blk_below (blk_nw BK346.out) hb) (an (blk_below (blk_nw BK347.out) hb) (an (blk_below (blk_nw BK373.out) hb) (an (blk_below (blk_nw BK382.out) hb) (an (blk_below (blk_nw BK387.out) hb) (an (blk_below (blk_nw BK399.out) hb) (an (blk_below (blk_nw BK451.out) hb) (an (below_step (by exact bel0) hb) (trivial))))))))))))))))))
                  clear HO_9 HO_13 HO_374000 HO_383000 HO_388001 HO_400000 HO430 HO439 BK346 BK347 BK373 BK382 BK387 BK399 BK451 HB
                  obtain ⟨HO_9, HO_13, HO_374000, HO_383000, HO_388001, HO_400000, HO430, HO439, HO442, HO450, BK346, BK347, BK373, BK382, BK387, BK399, BK451, HB, -⟩ := n_
                  (try clear hb); (try clear hb2); (try clear hk); (try clear hi); (try clear ho0); (try clear ho1)
                  refine hK.out _ _ ⟨(blk_cell BK346.out 0).trans rfl, (blk_cell BK346.out 1).trans rfl, (blk_cell BK346.out 2).trans rfl, (blk_cell BK346.out 3).trans rfl, (blk_cell BK346.out 4).trans rfl, (blk_cell BK346.out 5).trans rfl, (blk_cell BK347.out 0).trans rfl, (blk_cell BK347.out 1).trans rfl⟩ (fun hHeld => ?_)
                  clear hK K
                  refine norm_ (a' := ?_) ?_ ?_
                  rotate_left
                  ·show Act.put _ (some 114) _ = _
                   simp only [Act.put, List.setIfInBounds_toArray, List.set_cons_zero, List.set_cons_succ, i64_w, i32_w]
                   rfl
                  refine pure_ (i := 6) (N := some 108) (v := ?_) (a' := ?_) #[true, true, true, true, true, true, true, false, false, true, false, false] rfl rfl (any_of HT_.out (by kernel_rfl)) (fun _ _ _ h => h) (Or.inl ⟨by rfl, ?_⟩) ?_ ?_
                  rotate_left; · intro w'; go_simp; with_reducible rfl
                  rotate_left; · simp only [Act.put, List.setIfInBounds_toArray, List.set_cons_zero, List.set_cons_succ, i64_w, i32_w]; rfl
                  refine pure_ (i := 7) (N := some 115) (v := ?_) (a' := ?_) #[true, true, true, true, true, true, true, true, false, true, false, false] rfl rfl (any_of HT_.out (by kernel_rfl)) (fun _ _ _ h => h) (Or.inl ⟨by rfl, ?_⟩) ?_ ?_
                  rotate_left; · intro w'; go_simp; with_reducible rfl
                  rotate_left; · simp only [Act.put, List.setIfInBounds_toArray, List.set_cons_zero, List.set_cons_succ, i64_w, i32_w]; rfl
                  refine pure_ (i := 8) (N := some 116) (v := ?_) (a' := ?_) #[true, true, true, true, true, true, true, true, true, true, false, false] rfl rfl (any_of HT_.out (by kernel_rfl)) (fun _ _ _ h => h) (Or.inl ⟨by rfl, ?_⟩) ?_ ?_
                  rotate_left; · intro w'; go_simp; with_reducible rfl
                  rotate_left; · simp only [Act.put, List.setIfInBounds_toArray, List.set_cons_zero, List.set_cons_succ, i64_w, i32_w]; rfl
                  exact norm_ (by simp only [putAll, Act.put, List.setIfInBounds_toArray, List.set_cons_zero, List.set_cons_succ]) (hCont (.slice Ao161 t428.length co161, .slice Ao162 t437.length co162, v441, v449, gb451) _ ⟨hHeld, (by exact Kd.R_nw (Kd.R_mono HO430.out (fun _ hk => by simp only [hk, ne_eq, not_false_eq_true, and_self]))), (by exact Kd.R_nw (Kd.R_mono HO439.out (fun _ hk => hk.2))), (by exact Kd.R_nw (Kd.R_mono HO442.out (fun _ hk => by simp only [hk, ne_eq, not_false_eq_true, and_self]))), (by exact Kd.R_nw (Kd.R_mono HO450.out (fun _ hk => by simp only [hk, ne_eq, not_false_eq_true, and_self]))), (by exact Kd.R_nw (Kd.R_mono HO_13.out (fun _ hk => by simp only [hk, ne_eq, not_false_eq_true, and_self]))), (by exact Kd.R_nw (Kd.R_mono HO_374000.out (fun _ hk => by simp only [hk, ne_eq, not_false_eq_true, and_self]))), (by exact Kd.R_nw (Kd.R_mono HO_383000.out (fun _ hk => by simp only [hk, ne_eq, not_false_eq_true, and_self]))), (by exact Kd.R_nw (Kd.R_mono HO_388001.out (fun _ hk => hk.2))), (by exact Kd.R_nw (Kd.R_mono HO_400000.out (fun _ hk => by simp only [hk, ne_eq, not_false_eq_true, and_self]))), (by exact Kd.R_nw (Kd.R_mono HO_9.out (fun _ hk => by simp only [hk, ne_eq, not_false_eq_true, and_self]))), (by exact blk_nw BK346.out), (by exact blk_nw BK347.out), (by exact blk_nw BK373.out), (by exact blk_nw BK382.out), (by exact blk_nw BK387.out), (by exact blk_nw BK399.out), (by exact blk_nw BK451.out), GW451.out, GE451.out, NB346_451.out, NB451_346.out, NB347_451.out, NB451_347.out, NB373_451.out, NB451_373.out, NB382_451.out, NB451_382.out, NB387_451.out, NB451_387.out, NB399_451.out, NB451_399.out, (by exact bel0)⟩)
                ·skip
                 refine box_step ?hg (N := 17) ?hd (cs := #[.slice none 0 0, .int .i64 0, .int .i64 0, .int .i64 0, .int .i64 0, .int .i64 0]) (t := 90) ?hr ?_; (case hd => rfl); (case hg => rfl); (case hr => first | (go_simp; done) | (go_simp; rfl))
                 intro gb451 hg w159 hbox hb
                 have n_ := an (Kd.R_below (by exact Kd.R_nw HO_9.out) hb) (an (Kd.R_below (by exact Kd.R_nw HO_13.out) hb) (an (Kd.R_below (by exact Kd.R_nw HO_374000.out) hb) (an (Kd.R_below (by exact Kd.R_nw HO_383000.out) hb) (an (Kd.R_below (by exact Kd.R_nw HO_388001.out) hb) (an (Kd.R_below (by exact Kd.R_nw HO_400000.out) hb) (an (Kd.R_below (by exact Kd.R_nw HO430.out) hb) (an (blk_below (blk_nw BK346.out) hb) (an (blk_below (blk_nw BK347.out) hb) (an (blk_below (blk_nw BK373.out) hb) (an (blk_below (blk_nw BK382.out) hb) (an (blk_below (blk_nw BK387.out) hb) (an (blk_below (blk_nw BK399.out) hb) (an (below_step (by exact bel0) hb) (an (hbox) (an ((by rw [hg]; exact (below_size (by exact bel0)) : w.heap.size ≤ gb451)) (an ((by rw [hg]; exact (below_size (by exact bel0)) : w.heap.size ≤ gb451)) (an ((by rw [hg]; exact Nat.ne_of_lt (blk_lt (blk_nw BK346.out)) : gb346 ≠ gb451)) (an ((by rw [hg]; exact Nat.ne_of_gt (blk_lt (blk_nw BK346.out)) : gb451 ≠ gb346)) (an ((by rw [hg]; exact Nat.ne_of_lt (blk_lt (blk_nw BK347.out)) : gb347 ≠ gb451)) (an ((by rw [hg]; exact Nat.ne_of_gt (blk_lt (blk_nw BK347.out)) : gb451 ≠ gb347)) (an ((by rw [hg]; exact Nat.ne_of_lt (blk_lt (blk_nw BK373.out)) : gb373 ≠ gb451)) (an ((by rw [hg]; exact Nat.ne_of_gt (blk_lt (blk_nw BK373.out)) : gb451 ≠ gb373)) (an ((by rw [hg]; exact Nat.ne_of_lt (blk_lt (blk_nw BK382.out)) : gb382 ≠ gb451)) (an ((by rw [hg]; exact Nat.ne_of_gt (blk_lt (blk_nw BK382.out)) : gb451 ≠ gb382)) (an ((by rw [hg]; exact Nat.ne_of_lt (blk_lt (blk_nw BK387.out)) : gb387 ≠ gb451)) (an ((by rw [hg]; exact Nat.ne_of_gt (blk_lt (blk_nw BK387.out)) : gb451 ≠ gb387)) (an ((by rw [hg]; exact Nat.ne_of_lt (blk_lt (blk_nw BK399.out)) : gb399 ≠ gb451)) (an ((by rw [hg]; exact Nat.ne_of_gt (blk_lt (blk_nw BK399.out)) : gb451 ≠ gb399)) (trivial)))))))))))))))))))))))))))))
                 clear HO_9 HO_13 HO_374000 HO_383000 HO_388001 HO_400000 HO430 BK346 BK347 BK373 BK382 BK387 BK399 HB
                 obtain ⟨HO_9, HO_13, HO_374000, HO_383000, HO_388001, HO_400000, HO430, BK346, BK347, BK373, BK382, BK387, BK399, HB, BK451, GW451, GE451, NB346_451, NB451_346, NB347_451, NB451_347, NB373_451, NB451_373, NB382_451, NB451_382, NB387_451, NB451_387, NB399_451, NB451_399, -⟩ := n_
                 clear hb hbox hg
                 refine hK.out _ _ ⟨(blk_cell BK346.out 0).trans rfl, (blk_cell BK346.out 1).trans rfl, (blk_cell BK346.out 2).trans rfl, (blk_cell BK346.out 3).trans rfl, (blk_cell BK346.out 4).trans rfl, (blk_cell BK346.out 5).trans rfl, (blk_cell BK347.out 0).trans rfl, (blk_cell BK347.out 1).trans rfl⟩ (fun hHeld => ?_)
                 clear hK K
                 refine norm_ (a' := ?_) ?_ ?_
                 rotate_left
                 ·show Act.put _ (some 17) _ = _
                  simp only [Act.put, List.setIfInBounds_toArray, List.set_cons_zero, List.set_cons_succ, i64_w, i32_w]
                  rfl
                 refine one_ (i := 3) (N := some 112) #[true, true, true, true, true, false, false, false, false, true, false, false] rfl rfl (one_of HT_.out (by kernel_rfl)) (by decide) (fun K hK => ?_)
                 refine goes_ Try.func25 (by kernel_rfl) rfl #[.agg #[.int .i64 a1_0, .slice A1_1 l1_1.length c1_1]] (by rfl) rfl rfl (by (try simp only [List.map_toArray, List.map_cons, List.map_nil]); first | done | rfl | (simp only [List.length_drop, List.length_take]; rfl)) ?_
                 with_reducible refine (laws_toTable.calls kj101 a1_0 _ _ l1_1 t436 t437 _ ?side1 ?side2 A154.out).mono ?_
                 (case side1 => repeat (first | exact (Kd.C_below HR1_1.out HB.out) | (with_reducible refine Kd.C_alloc ?_ _) | (with_reducible refine Kd.C_drewN ?_ _) | (with_reducible refine Kd.C_drew ?_)))
                 (case side2 => exact HC1_1.out)
                 rintro e w160 ⟨v438, rfl, ho0, hb⟩
                 refine ⟨_, rfl, ?_⟩
                 have n_ := an (Kd.R_below (by exact Kd.R_nw HO_9.out) hb) (an (Kd.R_below (by exact Kd.R_nw HO_13.out) hb) (an (Kd.R_below (by exact Kd.R_nw HO_374000.out) hb) (an (Kd.R_below (by exact Kd.R_nw HO_383000.out) hb) (an (Kd.R_elder' (by exact Kd.R_nw HO_388001.out) (Kd.R_base ho0) hb) (an (Kd.R_below (by exact Kd.R_nw HO_400000.out) hb) (an (Kd.R_below (by exact Kd.R_nw HO430.out) hb) (an (Kd.R_lower (Kd.R_new' ho0 (Kd.R_lt (by exact Kd.R_nw HO_388001.out))) (below_size (by exact bel0))) (an (blk_below (blk_nw BK346.out) hb) (an (blk_below (blk_nw BK347.out) hb) (an (blk_below (blk_nw BK373.out) hb) (an (blk_below (blk_nw BK382.out) hb) (an (blk_below (blk_nw BK387.out) hb) (an (blk_below (blk_nw BK399.out) hb) (an (blk_below (blk_nw BK451.out) hb) (an (below_step (by exact bel0) hb) (trivial))))))))))))))))
                 clear HO_9 HO_13 HO_374000 HO_383000 HO_388001 HO_400000 HO430 BK346 BK347 BK373 BK382 BK387 BK399 BK451 HB
                 obtain ⟨HO_9, HO_13, HO_374000, HO_383000, HO_388001, HO_400000, HO430, HO439, BK346, BK347, BK373, BK382, BK387, BK399, BK451, HB, -⟩ := n_
                 (try clear hb); (try clear hb2); (try clear hk); (try clear hi); (try clear ho0)
                 obtain ⟨Ao161, co161, eo161⟩ := Kd.R_slice HO430.out
                 (first | subst eo161 | (injection eo161 with f1_ f2_ f3_; have f4_ := f1_.symm; have f5_ := f3_.symm; clear f1_ f2_ f3_; subst f4_; subst f5_))
                 obtain ⟨Ao162, co162, eo162⟩ := Kd.R_slice HO439.out
                 (first | subst eo162 | (injection eo162 with f1_ f2_ f3_; have f4_ := f1_.symm; have f5_ := f3_.symm; clear f1_ f2_ f3_; subst f4_; subst f5_))
                 refine hK.out _ _ ⟨(blk_cell BK346.out 0).trans rfl, (blk_cell BK346.out 1).trans rfl, (blk_cell BK346.out 2).trans rfl, (blk_cell BK346.out 3).trans rfl, (blk_cell BK346.out 4).trans rfl, (blk_cell BK346.out 5).trans rfl, (blk_cell BK347.out 0).trans rfl, (blk_cell BK347.out 1).trans rfl⟩ (fun hHeld => ?_)
                 clear hK K
                 refine norm_ (a' := ?_) ?_ ?_
                 rotate_left
                 ·show Act.put _ (some 112) _ = _
                  simp only [Act.put, List.setIfInBounds_toArray, List.set_cons_zero, List.set_cons_succ, i64_w, i32_w]
                  rfl
                 refine one_ (i := 5) (N := some 114) #[true, true, true, true, true, true, false, false, false, true, false, false] rfl rfl (one_of HT_.out (by kernel_rfl)) (by decide) (fun K hK => ?_)
                 refine goes_ Try.func59 (by kernel_rfl) rfl #[.agg #[.slice Ao161 t428.length co161, .int .i64 t431, .int .i64 t432, .int .i64 t433, .int .i64 t434, .int .i64 t435], .agg #[.int .i64 t436, .slice Ao162 t437.length co162], .int .i64 a2] (by rfl) rfl rfl (by (try simp only [List.map_toArray, List.map_cons, List.map_nil]); first | done | rfl | (simp only [List.length_drop, List.length_take]; rfl)) ?_
                 with_reducible refine (impl_Helpers.calls kj101 _ _ t428 t431 t432 t433 t434 t435 t436 _ _ t437 a2 t440 t443 t444 t445 t446 t447 t448 _ ?side1 ?side2 ?side3 ?side4 A155.out).mono ?_
                 (case side1 => repeat (first | exact (Kd.R_reads' HO430.out).2.2 | (with_reducible refine Kd.C_alloc ?_ _) | (with_reducible refine Kd.C_drewN ?_ _) | (with_reducible refine Kd.C_drew ?_)))
                 (case side2 => exact (Kd.R_reads' HO430.out).2.1)
                 (case side3 => repeat (first | exact (Kd.R_reads' HO439.out).2.2 | (with_reducible refine Kd.C_alloc ?_ _) | (with_reducible refine Kd.C_drewN ?_ _) | (with_reducible refine Kd.C_drew ?_)))
                 (case side4 => exact (Kd.R_reads' HO439.out).2.1)
                 rintro e w163 ⟨v441, v449, rfl, ho0, ho1, hb⟩
                 refine ⟨_, rfl, ?_⟩
                 have n_ := an (Kd.R_mono (Kd.R_told (Kd.R_told (Kd.R_old (by exact Kd.R_nw HO_9.out) hb) (Kd.R_base ho0)) (Kd.R_base ho1)) (fun _ h_ => h_.1)) (an (Kd.R_mono (Kd.R_told (Kd.R_told (Kd.R_old (by exact Kd.R_nw HO_13.out) hb) (Kd.R_base ho0)) (Kd.R_base ho1)) (fun _ h_ => h_.1)) (an (Kd.R_mono (Kd.R_told (Kd.R_told (Kd.R_old (by exact Kd.R_nw HO_374000.out) hb) (Kd.R_base ho0)) (Kd.R_base ho1)) (fun _ h_ => h_.1)) (an (Kd.R_mono (Kd.R_told (Kd.R_told (Kd.R_old (by exact Kd.R_nw HO_383000.out) hb) (Kd.R_base ho0)) (Kd.R_base ho1)) (fun _ h_ => h_.1)) (an (Kd.R_below (by exact Kd.R_nw HO_388001.out) hb) (an (Kd.R_mono (Kd.R_told (Kd.R_told (Kd.R_old (by exact Kd.R_nw HO_400000.out) hb) (Kd.R_base ho0)) (Kd.R_base ho1)) (fun _ h_ => h_.1)) (an (Kd.R_mono (Kd.R_told (Kd.R_told (Kd.R_old (by exact Kd.R_nw HO430.out) hb) (Kd.R_base ho0)) (Kd.R_base ho1)) (fun _ h_ => h_.1)) (an (Kd.R_below (by exact Kd.R_nw HO439.out) hb) (an (Kd.R_lower (Kd.R_new' (Kd.R_new' (Kd.R_new' (Kd.R_new' (Kd.R_new' (Kd.R_new' ho0 (Kd.R_lt (by exact Kd.R_nw HO_9.out))) (Kd.R_lt (by exact Kd.R_nw HO_13.out))) (Kd.R_lt (by exact Kd.R_nw HO_374000.out))) (Kd.R_lt (by exact Kd.R_nw HO_383000.out))) (Kd.R_lt (by exact Kd.R_nw HO_400000.out))) (Kd.R_lt (by exact Kd.R_nw HO430.out))) (below_size (by exact bel0))) (an (Kd.R_lower (Kd.R_new' (Kd.R_new' (Kd.R_new' (Kd.R_new' (Kd.R_new' (Kd.R_new' ho1 (Kd.R_lt (by exact Kd.R_nw HO_9.out))) (Kd.R_lt (by exact Kd.R_nw HO_13.out))) (Kd.R_lt (by exact Kd.R_nw HO_374000.out))) (Kd.R_lt (by exact Kd.R_nw HO_383000.out))) (Kd.R_lt (by exact Kd.R_nw HO_400000.out))) (Kd.R_lt (by exact Kd.R_nw HO430.out))) (below_size (by exact bel0))) (an (blk_below (blk_nw BK346.out) hb) (an (blk_below (blk_nw BK347.out) hb) (an (blk_below (blk_nw BK373.out) hb) (an (blk_below (blk_nw BK382.out) hb) (an (blk_below (blk_nw BK387.out) hb) (an (blk_below (blk_nw BK399.out) hb) (an (blk_below (blk_nw BK451.out) hb) (an (below_step (by exact bel0) hb) (trivial))))))))))))))))))
                 clear HO_9 HO_13 HO_374000 HO_383000 HO_388001 HO_400000 HO430 HO439 BK346 BK347 BK373 BK382 BK387 BK399 BK451 HB
                 obtain ⟨HO_9, HO_13, HO_374000, HO_383000, HO_388001, HO_400000, HO430, HO439, HO442, HO450, BK346, BK347, BK373, BK382, BK387, BK399, BK451, HB, -⟩ := n_
                 (try clear hb); (try clear hb2); (try clear hk); (try clear hi); (try clear ho0); (try clear ho1)
                 refine hK.out _ _ ⟨(blk_cell BK346.out 0).trans rfl, (blk_cell BK346.out 1).trans rfl, (blk_cell BK346.out 2).trans rfl, (blk_cell BK346.out 3).trans rfl, (blk_cell BK346.out 4).trans rfl, (blk_cell BK346.out 5).trans rfl, (blk_cell BK347.out 0).trans rfl, (blk_cell BK347.out 1).trans rfl⟩ (fun hHeld => ?_)
                 clear hK K
                 refine norm_ (a' := ?_) ?_ ?_
                 rotate_left
                 ·show Act.put _ (some 114) _ = _
                  simp only [Act.put, List.setIfInBounds_toArray, List.set_cons_zero, List.set_cons_succ, i64_w, i32_w]
                  rfl
                 refine pure_ (i := 6) (N := some 108) (v := ?_) (a' := ?_) #[true, true, true, true, true, true, true, false, false, true, false, false] rfl rfl (any_of HT_.out (by kernel_rfl)) (fun _ _ _ h => h) (Or.inl ⟨by rfl, ?_⟩) ?_ ?_
                 rotate_left; · intro w'; go_simp; with_reducible rfl
                 rotate_left; · simp only [Act.put, List.setIfInBounds_toArray, List.set_cons_zero, List.set_cons_succ, i64_w, i32_w]; rfl
                 refine pure_ (i := 7) (N := some 115) (v := ?_) (a' := ?_) #[true, true, true, true, true, true, true, true, false, true, false, false] rfl rfl (any_of HT_.out (by kernel_rfl)) (fun _ _ _ h => h) (Or.inl ⟨by rfl, ?_⟩) ?_ ?_
                 rotate_left; · intro w'; go_simp; with_reducible rfl
                 rotate_left; · simp only [Act.put, List.setIfInBounds_toArray, List.set_cons_zero, List.set_cons_succ, i64_w, i32_w]; rfl
                 refine pure_ (i := 8) (N := some 116) (v := ?_) (a' := ?_) #[true, true, true, true, true, true, true, true, true, true, false, false] rfl rfl (any_of HT_.out (by kernel_rfl)) (fun _ _ _ h => h) (Or.inl ⟨by rfl, ?_⟩) ?_ ?_
                 rotate_left; · intro w'; go_simp; with_reducible rfl
                 rotate_left; · simp only [Act.put, List.setIfInBounds_toArray, List.set_cons_zero, List.set_cons_succ, i64_w, i32_w]; rfl
                 exact norm_ (by simp only [putAll, Act.put, List.setIfInBounds_toArray, List.set_cons_zero, List.set_cons_succ]) (hCont (.slice Ao161 t428.length co161, .slice Ao162 t437.length co162, v441, v449, gb451) _ ⟨hHeld, (by exact Kd.R_nw (Kd.R_mono HO430.out (fun _ hk => by simp only [hk, ne_eq, not_false_eq_true, and_self]))), (by exact Kd.R_nw (Kd.R_mono HO439.out (fun _ hk => hk.2))), (by exact Kd.R_nw (Kd.R_mono HO442.out (fun _ hk => by simp only [hk, ne_eq, not_false_eq_true, and_self]))), (by exact Kd.R_nw (Kd.R_mono HO450.out (fun _ hk => by simp only [hk, ne_eq, not_false_eq_true, and_self]))), (by exact Kd.R_nw (Kd.R_mono HO_13.out (fun _ hk => by simp only [hk, ne_eq, not_false_eq_true, and_self]))), (by exact Kd.R_nw (Kd.R_mono HO_374000.out (fun _ hk => by simp only [hk, ne_eq, not_false_eq_true, and_self]))), (by exact Kd.R_nw (Kd.R_mono HO_383000.out (fun _ hk => by simp only [hk, ne_eq, not_false_eq_true, and_self]))), (by exact Kd.R_nw (Kd.R_mono HO_388001.out (fun _ hk => hk.2))), (by exact Kd.R_nw (Kd.R_mono HO_400000.out (fun _ hk => by simp only [hk, ne_eq, not_false_eq_true, and_self]))), (by exact Kd.R_nw (Kd.R_mono HO_9.out (fun _ hk => by simp only [hk, ne_eq, not_false_eq_true, and_self]))), (by exact blk_nw BK346.out), (by exact blk_nw BK347.out), (by exact blk_nw BK373.out), (by exact blk_nw BK382.out), (by exact blk_nw BK387.out), (by exact blk_nw BK399.out), (by exact blk_nw BK451.out), GW451.out, GE451.out, NB346_451.out, NB451_346.out, NB347_451.out, NB451_347.out, NB373_451.out, NB451_373.out, NB382_451.out, NB451_382.out, NB387_451.out, NB451_387.out, NB399_451.out, NB451_399.out, (by exact bel0)⟩)
               ·skip
                refine box_step ?hg (N := 17) ?hd (cs := #[.slice none 0 0, .int .i64 0, .int .i64 0, .int .i64 0, .int .i64 0, .int .i64 0]) (t := 90) ?hr ?_; (case hd => rfl); (case hg => rfl); (case hr => first | (go_simp; done) | (go_simp; rfl))
                intro gb451 hg w158 hbox hb
                have n_ := an (Kd.R_below (by exact Kd.R_nw HO_9.out) hb) (an (Kd.R_below (by exact Kd.R_nw HO_13.out) hb) (an (Kd.R_below (by exact Kd.R_nw HO_374000.out) hb) (an (Kd.R_below (by exact Kd.R_nw HO_383000.out) hb) (an (Kd.R_below (by exact Kd.R_nw HO_388001.out) hb) (an (Kd.R_below (by exact Kd.R_nw HO_400000.out) hb) (an (blk_below (blk_nw BK346.out) hb) (an (blk_below (blk_nw BK347.out) hb) (an (blk_below (blk_nw BK373.out) hb) (an (blk_below (blk_nw BK382.out) hb) (an (blk_below (blk_nw BK387.out) hb) (an (blk_below (blk_nw BK399.out) hb) (an (below_step (by exact bel0) hb) (an (hbox) (an ((by rw [hg]; exact (below_size (by exact bel0)) : w.heap.size ≤ gb451)) (an ((by rw [hg]; exact (below_size (by exact bel0)) : w.heap.size ≤ gb451)) (an ((by rw [hg]; exact Nat.ne_of_lt (blk_lt (blk_nw BK346.out)) : gb346 ≠ gb451)) (an ((by rw [hg]; exact Nat.ne_of_gt (blk_lt (blk_nw BK346.out)) : gb451 ≠ gb346)) (an ((by rw [hg]; exact Nat.ne_of_lt (blk_lt (blk_nw BK347.out)) : gb347 ≠ gb451)) (an ((by rw [hg]; exact Nat.ne_of_gt (blk_lt (blk_nw BK347.out)) : gb451 ≠ gb347)) (an ((by rw [hg]; exact Nat.ne_of_lt (blk_lt (blk_nw BK373.out)) : gb373 ≠ gb451)) (an ((by rw [hg]; exact Nat.ne_of_gt (blk_lt (blk_nw BK373.out)) : gb451 ≠ gb373)) (an ((by rw [hg]; exact Nat.ne_of_lt (blk_lt (blk_nw BK382.out)) : gb382 ≠ gb451)) (an ((by rw [hg]; exact Nat.ne_of_gt (blk_lt (blk_nw BK382.out)) : gb451 ≠ gb382)) (an ((by rw [hg]; exact Nat.ne_of_lt (blk_lt (blk_nw BK387.out)) : gb387 ≠ gb451)) (an ((by rw [hg]; exact Nat.ne_of_gt (blk_lt (blk_nw BK387.out)) : gb451 ≠ gb387)) (an ((by rw [hg]; exact Nat.ne_of_lt (blk_lt (blk_nw BK399.out)) : gb399 ≠ gb451)) (an ((by rw [hg]; exact Nat.ne_of_gt (blk_lt (blk_nw BK399.out)) : gb451 ≠ gb399)) (trivial))))))))))))))))))))))))))))
                clear HO_9 HO_13 HO_374000 HO_383000 HO_388001 HO_400000 BK346 BK347 BK373 BK382 BK387 BK399 HB
                obtain ⟨HO_9, HO_13, HO_374000, HO_383000, HO_388001, HO_400000, BK346, BK347, BK373, BK382, BK387, BK399, HB, BK451, GW451, GE451, NB346_451, NB451_346, NB347_451, NB451_347, NB373_451, NB451_373, NB382_451, NB451_382, NB387_451, NB451_387, NB399_451, NB451_399, -⟩ := n_
                clear hb hbox hg
                refine hK.out _ _ ⟨(blk_cell BK346.out 0).trans rfl, (blk_cell BK346.out 1).trans rfl, (blk_cell BK346.out 2).trans rfl, (blk_cell BK346.out 3).trans rfl, (blk_cell BK346.out 4).trans rfl, (blk_cell BK346.out 5).trans rfl, (blk_cell BK347.out 0).trans rfl, (blk_cell BK347.out 1).trans rfl⟩ (fun hHeld => ?_)
                clear hK K
                refine norm_ (a' := ?_) ?_ ?_
                rotate_left
                ·show Act.put _ (some 17) _ = _
                 simp only [Act.put, List.setIfInBounds_toArray, List.set_cons_zero, List.set_cons_succ, i64_w, i32_w]
                 rfl
                refine one_ (i := 1) (N := some 110) #[true, true, true, false, true, false, false, false, false, true, false, false] rfl rfl (one_of HT_.out (by kernel_rfl)) (by decide) (fun K hK => ?_)
                refine goes_ Try.func58 (by kernel_rfl) rfl #[.agg #[.slice A0_0 l0_0.length c0_0, .int .i64 a0_1, .int .i64 a0_2, .int .i64 a0_3, .int .i64 a0_4, .int .i64 a0_5]] (by rfl) rfl rfl (by (try simp only [List.map_toArray, List.map_cons, List.map_nil]); first | done | rfl | (simp only [List.length_drop, List.length_take]; rfl)) ?_
                with_reducible refine (laws_toProber.calls kj101 _ _ l0_0 a0_1 a0_2 a0_3 a0_4 a0_5 t428 t431 t432 t433 t434 t435 _ ?side1 ?side2 A153.out).mono ?_
                (case side1 => repeat (first | exact (Kd.C_below HR0_0.out HB.out) | (with_reducible refine Kd.C_alloc ?_ _) | (with_reducible refine Kd.C_drewN ?_ _) | (with_reducible refine Kd.C_drew ?_)))
                (case side2 => exact HC0_0.out)
                rintro e w159 ⟨v429, rfl, ho0, hb⟩
                refine ⟨_, rfl, ?_⟩
                have n_ := an (Kd.R_elder' (by exact Kd.R_nw HO_9.out) (Kd.R_base ho0) hb) (an (Kd.R_elder' (by exact Kd.R_nw HO_13.out) (Kd.R_base ho0) hb) (an (Kd.R_elder' (by exact Kd.R_nw HO_374000.out) (Kd.R_base ho0) hb) (an (Kd.R_elder' (by exact Kd.R_nw HO_383000.out) (Kd.R_base ho0) hb) (an (Kd.R_below (by exact Kd.R_nw HO_388001.out) hb) (an (Kd.R_elder' (by exact Kd.R_nw HO_400000.out) (Kd.R_base ho0) hb) (an (Kd.R_lower (Kd.R_new' (Kd.R_new' (Kd.R_new' (Kd.R_new' (Kd.R_new' ho0 (Kd.R_lt (by exact Kd.R_nw HO_9.out))) (Kd.R_lt (by exact Kd.R_nw HO_13.out))) (Kd.R_lt (by exact Kd.R_nw HO_374000.out))) (Kd.R_lt (by exact Kd.R_nw HO_383000.out))) (Kd.R_lt (by exact Kd.R_nw HO_400000.out))) (below_size (by exact bel0))) (an (blk_below (blk_nw BK346.out) hb) (an (blk_below (blk_nw BK347.out) hb) (an (blk_below (blk_nw BK373.out) hb) (an (blk_below (blk_nw BK382.out) hb) (an (blk_below (blk_nw BK387.out) hb) (an (blk_below (blk_nw BK399.out) hb) (an (blk_below (blk_nw BK451.out) hb) (an (below_step (by exact bel0) hb) (trivial)))))))))))))))
                clear HO_9 HO_13 HO_374000 HO_383000 HO_388001 HO_400000 BK346 BK347 BK373 BK382 BK387 BK399 BK451 HB
                obtain ⟨HO_9, HO_13, HO_374000, HO_383000, HO_388001, HO_400000, HO430, BK346, BK347, BK373, BK382, BK387, BK399, BK451, HB, -⟩ := n_
                (try clear hb); (try clear hb2); (try clear hk); (try clear hi); (try clear ho0)
                refine hK.out _ _ ⟨(blk_cell BK346.out 0).trans rfl, (blk_cell BK346.out 1).trans rfl, (blk_cell BK346.out 2).trans rfl, (blk_cell BK346.out 3).trans rfl, (blk_cell BK346.out 4).trans rfl, (blk_cell BK346.out 5).trans rfl, (blk_cell BK347.out 0).trans rfl, (blk_cell BK347.out 1).trans rfl⟩ (fun hHeld => ?_)
                clear hK K
                refine norm_ (a' := ?_) ?_ ?_
                rotate_left
                ·show Act.put _ (some 110) _ = _
                 simp only [Act.put, List.setIfInBounds_toArray, List.set_cons_zero, List.set_cons_succ, i64_w, i32_w]
                 rfl
                refine one_ (i := 3) (N := some 112) #[true, true, true, true, true, false, false, false, false, true, false, false] rfl rfl (one_of HT_.out (by kernel_rfl)) (by decide) (fun K hK => ?_)
                refine goes_ Try.func25 (by kernel_rfl) rfl #[.agg #[.int .i64 a1_0, .slice A1_1 l1_1.length c1_1]] (by rfl) rfl rfl (by (try simp only [List.map_toArray, List.map_cons, List.map_nil]); first | done | rfl | (simp only [List.length_drop, List.length_take]; rfl)) ?_
                with_reducible refine (laws_toTable.calls kj101 a1_0 _ _ l1_1 t436 t437 _ ?side1 ?side2 A154.out).mono ?_
                (case side1 => repeat (first | exact (Kd.C_below HR1_1.out HB.out) | (with_reducible refine Kd.C_alloc ?_ _) | (with_reducible refine Kd.C_drewN ?_ _) | (with_reducible refine Kd.C_drew ?_)))
                (case side2 => exact HC1_1.out)
                rintro e w160 ⟨v438, rfl, ho0, hb⟩
                refine ⟨_, rfl, ?_⟩
                have n_ := an (Kd.R_below (by exact Kd.R_nw HO_9.out) hb) (an (Kd.R_below (by exact Kd.R_nw HO_13.out) hb) (an (Kd.R_below (by exact Kd.R_nw HO_374000.out) hb) (an (Kd.R_below (by exact Kd.R_nw HO_383000.out) hb) (an (Kd.R_elder' (by exact Kd.R_nw HO_388001.out) (Kd.R_base ho0) hb) (an (Kd.R_below (by exact Kd.R_nw HO_400000.out) hb) (an (Kd.R_below (by exact Kd.R_nw HO430.out) hb) (an (Kd.R_lower (Kd.R_new' ho0 (Kd.R_lt (by exact Kd.R_nw HO_388001.out))) (below_size (by exact bel0))) (an (blk_below (blk_nw BK346.out) hb) (an (blk_below (blk_nw BK347.out) hb) (an (blk_below (blk_nw BK373.out) hb) (an (blk_below (blk_nw BK382.out) hb) (an (blk_below (blk_nw BK387.out) hb) (an (blk_below (blk_nw BK399.out) hb) (an (blk_below (blk_nw BK451.out) hb) (an (below_step (by exact bel0) hb) (trivial))))))))))))))))
                clear HO_9 HO_13 HO_374000 HO_383000 HO_388001 HO_400000 HO430 BK346 BK347 BK373 BK382 BK387 BK399 BK451 HB
                obtain ⟨HO_9, HO_13, HO_374000, HO_383000, HO_388001, HO_400000, HO430, HO439, BK346, BK347, BK373, BK382, BK387, BK399, BK451, HB, -⟩ := n_
                (try clear hb); (try clear hb2); (try clear hk); (try clear hi); (try clear ho0)
                obtain ⟨Ao161, co161, eo161⟩ := Kd.R_slice HO430.out
                (first | subst eo161 | (injection eo161 with f1_ f2_ f3_; have f4_ := f1_.symm; have f5_ := f3_.symm; clear f1_ f2_ f3_; subst f4_; subst f5_))
                obtain ⟨Ao162, co162, eo162⟩ := Kd.R_slice HO439.out
                (first | subst eo162 | (injection eo162 with f1_ f2_ f3_; have f4_ := f1_.symm; have f5_ := f3_.symm; clear f1_ f2_ f3_; subst f4_; subst f5_))
                refine hK.out _ _ ⟨(blk_cell BK346.out 0).trans rfl, (blk_cell BK346.out 1).trans rfl, (blk_cell BK346.out 2).trans rfl, (blk_cell BK346.out 3).trans rfl, (blk_cell BK346.out 4).trans rfl, (blk_cell BK346.out 5).trans rfl, (blk_cell BK347.out 0).trans rfl, (blk_cell BK347.out 1).trans rfl⟩ (fun hHeld => ?_)
                clear hK K
                refine norm_ (a' := ?_) ?_ ?_
                rotate_left
                ·show Act.put _ (some 112) _ = _
                 simp only [Act.put, List.setIfInBounds_toArray, List.set_cons_zero, List.set_cons_succ, i64_w, i32_w]
                 rfl
                refine one_ (i := 5) (N := some 114) #[true, true, true, true, true, true, false, false, false, true, false, false] rfl rfl (one_of HT_.out (by kernel_rfl)) (by decide) (fun K hK => ?_)
                refine goes_ Try.func59 (by kernel_rfl) rfl #[.agg #[.slice Ao161 t428.length co161, .int .i64 t431, .int .i64 t432, .int .i64 t433, .int .i64 t434, .int .i64 t435], .agg #[.int .i64 t436, .slice Ao162 t437.length co162], .int .i64 a2] (by rfl) rfl rfl (by (try simp only [List.map_toArray, List.map_cons, List.map_nil]); first | done | rfl | (simp only [List.length_drop, List.length_take]; rfl)) ?_
                with_reducible refine (impl_Helpers.calls kj101 _ _ t428 t431 t432 t433 t434 t435 t436 _ _ t437 a2 t440 t443 t444 t445 t446 t447 t448 _ ?side1 ?side2 ?side3 ?side4 A155.out).mono ?_
                (case side1 => repeat (first | exact (Kd.R_reads' HO430.out).2.2 | (with_reducible refine Kd.C_alloc ?_ _) | (with_reducible refine Kd.C_drewN ?_ _) | (with_reducible refine Kd.C_drew ?_)))
                (case side2 => exact (Kd.R_reads' HO430.out).2.1)
                (case side3 => repeat (first | exact (Kd.R_reads' HO439.out).2.2 | (with_reducible refine Kd.C_alloc ?_ _) | (with_reducible refine Kd.C_drewN ?_ _) | (with_reducible refine Kd.C_drew ?_)))
                (case side4 => exact (Kd.R_reads' HO439.out).2.1)
                rintro e w163 ⟨v441, v449, rfl, ho0, ho1, hb⟩
                refine ⟨_, rfl, ?_⟩
                have n_ := an (Kd.R_mono (Kd.R_told (Kd.R_told (Kd.R_old (by exact Kd.R_nw HO_9.out) hb) (Kd.R_base ho0)) (Kd.R_base ho1)) (fun _ h_ => h_.1)) (an (Kd.R_mono (Kd.R_told (Kd.R_told (Kd.R_old (by exact Kd.R_nw HO_13.out) hb) (Kd.R_base ho0)) (Kd.R_base ho1)) (fun _ h_ => h_.1)) (an (Kd.R_mono (Kd.R_told (Kd.R_told (Kd.R_old (by exact Kd.R_nw HO_374000.out) hb) (Kd.R_base ho0)) (Kd.R_base ho1)) (fun _ h_ => h_.1)) (an (Kd.R_mono (Kd.R_told (Kd.R_told (Kd.R_old (by exact Kd.R_nw HO_383000.out) hb) (Kd.R_base ho0)) (Kd.R_base ho1)) (fun _ h_ => h_.1)) (an (Kd.R_below (by exact Kd.R_nw HO_388001.out) hb) (an (Kd.R_mono (Kd.R_told (Kd.R_told (Kd.R_old (by exact Kd.R_nw HO_400000.out) hb) (Kd.R_base ho0)) (Kd.R_base ho1)) (fun _ h_ => h_.1)) (an (Kd.R_mono (Kd.R_told (Kd.R_told (Kd.R_old (by exact Kd.R_nw HO430.out) hb) (Kd.R_base ho0)) (Kd.R_base ho1)) (fun _ h_ => h_.1)) (an (Kd.R_below (by exact Kd.R_nw HO439.out) hb) (an (Kd.R_lower (Kd.R_new' (Kd.R_new' (Kd.R_new' (Kd.R_new' (Kd.R_new' (Kd.R_new' ho0 (Kd.R_lt (by exact Kd.R_nw HO_9.out))) (Kd.R_lt (by exact Kd.R_nw HO_13.out))) (Kd.R_lt (by exact Kd.R_nw HO_374000.out))) (Kd.R_lt (by exact Kd.R_nw HO_383000.out))) (Kd.R_lt (by exact Kd.R_nw HO_400000.out))) (Kd.R_lt (by exact Kd.R_nw HO430.out))) (below_size (by exact bel0))) (an (Kd.R_lower (Kd.R_new' (Kd.R_new' (Kd.R_new' (Kd.R_new' (Kd.R_new' (Kd.R_new' ho1 (Kd.R_lt (by exact Kd.R_nw HO_9.out))) (Kd.R_lt (by exact Kd.R_nw HO_13.out))) (Kd.R_lt (by exact Kd.R_nw HO_374000.out))) (Kd.R_lt (by exact Kd.R_nw HO_383000.out))) (Kd.R_lt (by exact Kd.R_nw HO_400000.out))) (Kd.R_lt (by exact Kd.R_nw HO430.out))) (below_size (by exact bel0))) (an (blk_below (blk_nw BK346.out) hb) (an (blk_below (blk_nw BK347.out) hb) (an (blk_below (blk_nw BK373.out) hb) (an (blk_below (blk_nw BK382.out) hb) (an (blk_below (blk_nw BK387.out) hb) (an (blk_below (blk_nw BK399.out) hb) (an (blk_below (blk_nw BK451.out) hb) (an (below_step (by exact bel0) hb) (trivial))))))))))))))))))
                clear HO_9 HO_13 HO_374000 HO_383000 HO_388001 HO_400000 HO430 HO439 BK346 BK347 BK373 BK382 BK387 BK399 BK451 HB
                obtain ⟨HO_9, HO_13, HO_374000, HO_383000, HO_388001, HO_400000, HO430, HO439, HO442, HO450, BK346, BK347, BK373, BK382, BK387, BK399, BK451, HB, -⟩ := n_
                (try clear hb); (try clear hb2); (try clear hk); (try clear hi); (try clear ho0); (try clear ho1)
                refine hK.out _ _ ⟨(blk_cell BK346.out 0).trans rfl, (blk_cell BK346.out 1).trans rfl, (blk_cell BK346.out 2).trans rfl, (blk_cell BK346.out 3).trans rfl, (blk_cell BK346.out 4).trans rfl, (blk_cell BK346.out 5).trans rfl, (blk_cell BK347.out 0).trans rfl, (blk_cell BK347.out 1).trans rfl⟩ (fun hHeld => ?_)
                clear hK K
                refine norm_ (a' := ?_) ?_ ?_
                rotate_left
                ·show Act.put _ (some 114) _ = _
                 simp only [Act.put, List.setIfInBounds_toArray, List.set_cons_zero, List.set_cons_succ, i64_w, i32_w]
                 rfl
                refine pure_ (i := 6) (N := some 108) (v := ?_) (a' := ?_) #[true, true, true, true, true, true, true, false, false, true, false, false] rfl rfl (any_of HT_.out (by kernel_rfl)) (fun _ _ _ h => h) (Or.inl ⟨by rfl, ?_⟩) ?_ ?_
                rotate_left; · intro w'; go_simp; with_reducible rfl
                rotate_left; · simp only [Act.put, List.setIfInBounds_toArray, List.set_cons_zero, List.set_cons_succ, i64_w, i32_w]; rfl
                refine pure_ (i := 7) (N := some 115) (v := ?_) (a' := ?_) #[true, true, true, true, true, true, true, true, false, true, false, false] rfl rfl (any_of HT_.out (by kernel_rfl)) (fun _ _ _ h => h) (Or.inl ⟨by rfl, ?_⟩) ?_ ?_
                rotate_left; · intro w'; go_simp; with_reducible rfl
                rotate_left; · simp only [Act.put, List.setIfInBounds_toArray, List.set_cons_zero, List.set_cons_succ, i64_w, i32_w]; rfl
                refine pure_ (i := 8) (N := some 116) (v := ?_) (a' := ?_) #[true, true, true, true, true, true, true, true, true, true, false, false] rfl rfl (any_of HT_.out (by kernel_rfl)) (fun _ _ _ h => h) (Or.inl ⟨by rfl, ?_⟩) ?_ ?_
                rotate_left; · intro w'; go_simp; with_reducible rfl
                rotate_left; · simp only [Act.put, List.setIfInBounds_toArray, List.set_cons_zero, List.set_cons_succ, i64_w, i32_w]; rfl
                exact norm_ (by simp only [putAll, Act.put, List.setIfInBounds_toArray, List.set_cons_zero, List.set_cons_succ]) (hCont (.slice Ao161 t428.length co161, .slice Ao162 t437.length co162, v441, v449, gb451) _ ⟨hHeld, (by exact Kd.R_nw (Kd.R_mono HO430.out (fun _ hk => by simp only [hk, ne_eq, not_false_eq_true, and_self]))), (by exact Kd.R_nw (Kd.R_mono HO439.out (fun _ hk => hk.2))), (by exact Kd.R_nw (Kd.R_mono HO442.out (fun _ hk => by simp only [hk, ne_eq, not_false_eq_true, and_self]))), (by exact Kd.R_nw (Kd.R_mono HO450.out (fun _ hk => by simp only [hk, ne_eq, not_false_eq_true, and_self]))), (by exact Kd.R_nw (Kd.R_mono HO_13.out (fun _ hk => by simp only [hk, ne_eq, not_false_eq_true, and_self]))), (by exact Kd.R_nw (Kd.R_mono HO_374000.out (fun _ hk => by simp only [hk, ne_eq, not_false_eq_true, and_self]))), (by exact Kd.R_nw (Kd.R_mono HO_383000.out (fun _ hk => by simp only [hk, ne_eq, not_false_eq_true, and_self]))), (by exact Kd.R_nw (Kd.R_mono HO_388001.out (fun _ hk => hk.2))), (by exact Kd.R_nw (Kd.R_mono HO_400000.out (fun _ hk => by simp only [hk, ne_eq, not_false_eq_true, and_self]))), (by exact Kd.R_nw (Kd.R_mono HO_9.out (fun _ hk => by simp only [hk, ne_eq, not_false_eq_true, and_self]))), (by exact blk_nw BK346.out), (by exact blk_nw BK347.out), (by exact blk_nw BK373.out), (by exact blk_nw BK382.out), (by exact blk_nw BK387.out), (by exact blk_nw BK399.out), (by exact blk_nw BK451.out), GW451.out, GE451.out, NB346_451.out, NB451_346.out, NB347_451.out, NB451_347.out, NB373_451.out, NB451_373.out, NB382_451.out, NB451_382.out, NB387_451.out, NB451_387.out, NB399_451.out, NB451_399.out, (by exact bel0)⟩)
              rintro ⟨v429, v438, v441, v449, gb451⟩ w164 ⟨hS_, h0_, h1_, h2_, h3_, h4_, h5_, h6_, h7_, h8_, h9_, h10_, h11_, h12_, h13_, h14_, h15_, h16_, h17_, h18_, h19_, h20_, h21_, h22_, h23_, h24_, h25_, h26_, h27_, h28_, h29_, h30_, h31_⟩
              have n0_ : Aside0 (Kd.R (Kd.int .i64) 3 w164 w.heap.size (fun k_ => some k_ ≠ (v441 : Value).ownBlock ∧ some k_ ≠ (v449 : Value).ownBlock ∧ some k_ ≠ (.slice Ao145 t396.length co145 : Value).ownBlock ∧ some k_ ≠ (.slice Ao31 t362.length co31 : Value).ownBlock ∧ some k_ ≠ (.slice Ao43 t417.length co43 : Value).ownBlock ∧ some k_ ≠ (.slice Ao61 t388.length co61 : Value).ownBlock ∧ some k_ ≠ (v371 : Value).ownBlock) v429 t428) := ⟨h0_⟩
              have n1_ : Aside0 (Kd.R k82 82 w164 w.heap.size (fun k_ => some k_ ≠ (.slice Ao57 t419.length co57 : Value).ownBlock) v438 t437) := ⟨h1_⟩
              have n2_ : Aside0 (Kd.R (Kd.int .i64) 3 w164 w.heap.size (fun k_ => some k_ ≠ (v429 : Value).ownBlock ∧ some k_ ≠ (v449 : Value).ownBlock ∧ some k_ ≠ (.slice Ao145 t396.length co145 : Value).ownBlock ∧ some k_ ≠ (.slice Ao31 t362.length co31 : Value).ownBlock ∧ some k_ ≠ (.slice Ao43 t417.length co43 : Value).ownBlock ∧ some k_ ≠ (.slice Ao61 t388.length co61 : Value).ownBlock ∧ some k_ ≠ (v371 : Value).ownBlock) v441 t440) := ⟨h2_⟩
              have n3_ : Aside0 (Kd.R (Kd.int .i64) 3 w164 w.heap.size (fun k_ => some k_ ≠ (v429 : Value).ownBlock ∧ some k_ ≠ (v441 : Value).ownBlock ∧ some k_ ≠ (.slice Ao145 t396.length co145 : Value).ownBlock ∧ some k_ ≠ (.slice Ao31 t362.length co31 : Value).ownBlock ∧ some k_ ≠ (.slice Ao43 t417.length co43 : Value).ownBlock ∧ some k_ ≠ (.slice Ao61 t388.length co61 : Value).ownBlock ∧ some k_ ≠ (v371 : Value).ownBlock) v449 t448) := ⟨h3_⟩
              have n4_ : Aside0 (Kd.R (Kd.int .i64) 3 w164 w.heap.size (fun k_ => some k_ ≠ (v429 : Value).ownBlock ∧ some k_ ≠ (v441 : Value).ownBlock ∧ some k_ ≠ (v449 : Value).ownBlock ∧ some k_ ≠ (.slice Ao31 t362.length co31 : Value).ownBlock ∧ some k_ ≠ (.slice Ao43 t417.length co43 : Value).ownBlock ∧ some k_ ≠ (.slice Ao61 t388.length co61 : Value).ownBlock ∧ some k_ ≠ (v371 : Value).ownBlock) (.slice Ao145 t396.length co145) t425) := ⟨h4_⟩
              have n5_ : Aside0 (Kd.R (Kd.int .i64) 3 w164 w.heap.size (fun k_ => some k_ ≠ (v429 : Value).ownBlock ∧ some k_ ≠ (v441 : Value).ownBlock ∧ some k_ ≠ (v449 : Value).ownBlock ∧ some k_ ≠ (.slice Ao145 t396.length co145 : Value).ownBlock ∧ some k_ ≠ (.slice Ao43 t417.length co43 : Value).ownBlock ∧ some k_ ≠ (.slice Ao61 t388.length co61 : Value).ownBlock ∧ some k_ ≠ (v371 : Value).ownBlock) (.slice Ao31 t362.length co31) t362) := ⟨h5_⟩
              have n6_ : Aside0 (Kd.R (Kd.int .i64) 3 w164 w.heap.size (fun k_ => some k_ ≠ (v429 : Value).ownBlock ∧ some k_ ≠ (v441 : Value).ownBlock ∧ some k_ ≠ (v449 : Value).ownBlock ∧ some k_ ≠ (.slice Ao145 t396.length co145 : Value).ownBlock ∧ some k_ ≠ (.slice Ao31 t362.length co31 : Value).ownBlock ∧ some k_ ≠ (.slice Ao61 t388.length co61 : Value).ownBlock ∧ some k_ ≠ (v371 : Value).ownBlock) (.slice Ao43 t417.length co43) t417) := ⟨h6_⟩
              have n7_ : Aside0 (Kd.R k82 82 w164 w.heap.size (fun k_ => some k_ ≠ (v438 : Value).ownBlock) (.slice Ao57 t419.length co57) t419) := ⟨h7_⟩
              have n8_ : Aside0 (Kd.R (Kd.int .i64) 3 w164 w.heap.size (fun k_ => some k_ ≠ (v429 : Value).ownBlock ∧ some k_ ≠ (v441 : Value).ownBlock ∧ some k_ ≠ (v449 : Value).ownBlock ∧ some k_ ≠ (.slice Ao145 t396.length co145 : Value).ownBlock ∧ some k_ ≠ (.slice Ao31 t362.length co31 : Value).ownBlock ∧ some k_ ≠ (.slice Ao43 t417.length co43 : Value).ownBlock ∧ some k_ ≠ (v371 : Value).ownBlock) (.slice Ao61 t388.length co61) t423) := ⟨h8_⟩
              have n9_ : Aside0 (Kd.R (Kd.int .i64) 3 w164 w.heap.size (fun k_ => some k_ ≠ (v429 : Value).ownBlock ∧ some k_ ≠ (v441 : Value).ownBlock ∧ some k_ ≠ (v449 : Value).ownBlock ∧ some k_ ≠ (.slice Ao145 t396.length co145 : Value).ownBlock ∧ some k_ ≠ (.slice Ao31 t362.length co31 : Value).ownBlock ∧ some k_ ≠ (.slice Ao43 t417.length co43 : Value).ownBlock ∧ some k_ ≠ (.slice Ao61 t388.length co61 : Value).ownBlock) v371 t370) := ⟨h9_⟩
              have n10_ : Aside0 (w164.heap[gb346]? = some (.cells #[.slice A0_0 l0_0.length c0_0, .int .i64 a0_1, .int .i64 a0_2, .int .i64 a0_3, .int .i64 a0_4, .int .i64 a0_5] 88 (0, 0))) := ⟨h10_⟩
              have n11_ : Aside0 (w164.heap[gb347]? = some (.cells #[.int .i64 a1_0, .slice A1_1 l1_1.length c1_1] 37 (0, 0))) := ⟨h11_⟩
              have n12_ : Aside0 (w164.heap[gb373]? = some (.cells #[.slice Ao31 t362.length co31, .int .i64 t365, .int .i64 t366, .int .i64 t367, .int .i64 t368, .int .i64 t369] 90 (0, 0))) := ⟨h12_⟩
              have n13_ : Aside0 (w164.heap[gb382]? = some (.cells #[.slice Ao43 t417.length co43, .int .i64 t377, .int .i64 t378, .int .i64 t379, .int .i64 t380, .int .i64 t381] 90 (0, 0))) := ⟨h13_⟩
              have n14_ : Aside0 (w164.heap[gb387]? = some (.cells #[.int .i64 t383, .slice Ao57 t419.length co57] 41 (0, 0))) := ⟨h14_⟩
              have n15_ : Aside0 (w164.heap[gb399]? = some (.cells #[.slice Ao61 t388.length co61, .int .i64 t391, .int .i64 t392, .int .i64 t393, .int .i64 t394, .int .i64 t395] 90 (0, 0))) := ⟨h15_⟩
              have n16_ : Aside0 (w164.heap[gb451]? = some (.cells #[.slice none 0 0, .int .i64 0, .int .i64 0, .int .i64 0, .int .i64 0, .int .i64 0] 90 (0, 0))) := ⟨h16_⟩
              have n17_ : Aside0 (w.heap.size ≤ gb451) := ⟨h17_⟩
              have n18_ : Aside0 (w.heap.size ≤ gb451) := ⟨h18_⟩
              have n19_ : Aside0 (gb346 ≠ gb451) := ⟨h19_⟩
              have n20_ : Aside0 (gb451 ≠ gb346) := ⟨h20_⟩
              have n21_ : Aside0 (gb347 ≠ gb451) := ⟨h21_⟩
              have n22_ : Aside0 (gb451 ≠ gb347) := ⟨h22_⟩
              have n23_ : Aside0 (gb373 ≠ gb451) := ⟨h23_⟩
              have n24_ : Aside0 (gb451 ≠ gb373) := ⟨h24_⟩
              have n25_ : Aside0 (gb382 ≠ gb451) := ⟨h25_⟩
              have n26_ : Aside0 (gb451 ≠ gb382) := ⟨h26_⟩
              have n27_ : Aside0 (gb387 ≠ gb451) := ⟨h27_⟩
              have n28_ : Aside0 (gb451 ≠ gb387) := ⟨h28_⟩
              have n29_ : Aside0 (gb399 ≠ gb451) := ⟨h29_⟩
              have n30_ : Aside0 (gb451 ≠ gb399) := ⟨h30_⟩
              have n31_ : Aside0 (Below w.heap.size w w164) := ⟨h31_⟩
              clear HO_9; clear HO_13; clear HO_374000; clear HO_383000; clear HO_388001; clear HO_400000; clear BK346; clear BK347; clear BK373; clear BK382; clear BK387; clear BK399; clear HB; clear h0_ h1_ h2_ h3_ h4_ h5_ h6_ h7_ h8_ h9_ h10_ h11_ h12_ h13_ h14_ h15_ h16_ h17_ h18_ h19_ h20_ h21_ h22_ h23_ h24_ h25_ h26_ h27_ h28_ h29_ h30_ h31_
              have HO430 := n0_
              have HO439 := n1_
              have HO442 := n2_
              have HO450 := n3_
              have HO_13 := n4_
              have HO_374000 := n5_
              have HO_383000 := n6_
              have HO_388001 := n7_
              have HO_400000 := n8_
              have HO_9 := n9_
              have BK346 := n10_
              have BK347 := n11_
              have BK373 := n12_
              have BK382 := n13_
              have BK387 := n14_
              have BK399 := n15_
              have BK451 := n16_
              have GW451 := n17_
              have GE451 := n18_
              have NB346_451 := n19_
              have NB451_346 := n20_
              have NB347_451 := n21_
              have NB451_347 := n22_
              have NB373_451 := n23_
              have NB451_373 := n24_
              have NB382_451 := n25_
              have NB451_382 := n26_
              have NB387_451 := n27_
              have NB451_387 := n28_
              have NB399_451 := n29_
              have NB451_399 := n30_
              have HB := n31_
              clear n0_ n1_ n2_ n3_ n4_ n5_ n6_ n7_ n8_ n9_ n10_ n11_ n12_ n13_ n14_ n15_ n16_ n17_ n18_ n19_ n20_ n21_ n22_ n23_ n24_ n25_ n26_ n27_ n28_ n29_ n30_ n31_
              have hHeld : w164.cell? ⟨gb346, 0, none⟩ = some (.slice A0_0 l0_0.length c0_0) ∧ w164.cell? ⟨gb346, 1, none⟩ = some (.int .i64 a0_1) ∧ w164.cell? ⟨gb346, 2, none⟩ = some (.int .i64 a0_2) ∧ w164.cell? ⟨gb346, 3, none⟩ = some (.int .i64 a0_3) ∧ w164.cell? ⟨gb346, 4, none⟩ = some (.int .i64 a0_4) ∧ w164.cell? ⟨gb346, 5, none⟩ = some (.int .i64 a0_5) ∧ w164.cell? ⟨gb347, 0, none⟩ = some (.int .i64 a1_0) ∧ w164.cell? ⟨gb347, 1, none⟩ = some (.slice A1_1 l1_1.length c1_1) := hS_
              obtain ⟨Ao165, co165, eo165⟩ := Kd.R_slice HO442.out
              (first | subst eo165 | (injection eo165 with f1_ f2_ f3_; have f4_ := f1_.symm; have f5_ := f3_.symm; clear f1_ f2_ f3_; subst f4_; subst f5_))
              refine norm_ (a' := ?_) ?_ ?_
              rotate_left; · simp only [putAll, Act.put, List.setIfInBounds_toArray, List.set_cons_zero, List.set_cons_succ]; rfl
              refine one_ (i := 10) (N := none) #[true, true, true, true, true, true, true, true, true, true, true, false] rfl rfl (one_of HT_.out (by kernel_rfl)) (by decide) (fun K hK => ?_)
              have hs166 : w164.cell? ⟨gb451, 0, none⟩ = some (.slice none 0 0) := (blk_cell BK451.out 0).trans rfl
              have hfs166 := blk_frozen BK451.out 0
              have hns166_0 := NB346_451.out; have hns166_1 := NB347_451.out; have hns166_2 := NB373_451.out; have hns166_3 := NB382_451.out; have hns166_4 := NB387_451.out; have hns166_5 := NB399_451.out; have hms166_0 := NB451_346.out; have hms166_1 := NB451_347.out; have hms166_2 := NB451_373.out; have hms166_3 := NB451_382.out; have hms166_4 := NB451_387.out; have hms166_5 := NB451_399.out
              have hs167 : w164.cell? ⟨gb451, 1, none⟩ = some (.int .i64 0) := (blk_cell BK451.out 1).trans rfl
              have hfs167 := blk_frozen BK451.out 1
              have hns167_0 := NB346_451.out; have hns167_1 := NB347_451.out; have hns167_2 := NB373_451.out; have hns167_3 := NB382_451.out; have hns167_4 := NB387_451.out; have hns167_5 := NB399_451.out; have hms167_0 := NB451_346.out; have hms167_1 := NB451_347.out; have hms167_2 := NB451_373.out; have hms167_3 := NB451_382.out; have hms167_4 := NB451_387.out; have hms167_5 := NB451_399.out
              have hs168 : w164.cell? ⟨gb451, 2, none⟩ = some (.int .i64 0) := (blk_cell BK451.out 2).trans rfl
              have hfs168 := blk_frozen BK451.out 2
              have hns168_0 := NB346_451.out; have hns168_1 := NB347_451.out; have hns168_2 := NB373_451.out; have hns168_3 := NB382_451.out; have hns168_4 := NB387_451.out; have hns168_5 := NB399_451.out; have hms168_0 := NB451_346.out; have hms168_1 := NB451_347.out; have hms168_2 := NB451_373.out; have hms168_3 := NB451_382.out; have hms168_4 := NB451_387.out; have hms168_5 := NB451_399.out
              have hs169 : w164.cell? ⟨gb451, 3, none⟩ = some (.int .i64 0) := (blk_cell BK451.out 3).trans rfl
              have hfs169 := blk_frozen BK451.out 3
              have hns169_0 := NB346_451.out; have hns169_1 := NB347_451.out; have hns169_2 := NB373_451.out; have hns169_3 := NB382_451.out; have hns169_4 := NB387_451.out; have hns169_5 := NB399_451.out; have hms169_0 := NB451_346.out; have hms169_1 := NB451_347.out; have hms169_2 := NB451_373.out; have hms169_3 := NB451_382.out; have hms169_4 := NB451_387.out; have hms169_5 := NB451_399.out
              have hs170 : w164.cell? ⟨gb451, 4, none⟩ = some (.int .i64 0) := (blk_cell BK451.out 4).trans rfl
              have hfs170 := blk_frozen BK451.out 4
              have hns170_0 := NB346_451.out; have hns170_1 := NB347_451.out; have hns170_2 := NB373_451.out; have hns170_3 := NB382_451.out; have hns170_4 := NB387_451.out; have hns170_5 := NB399_451.out; have hms170_0 := NB451_346.out; have hms170_1 := NB451_347.out; have hms170_2 := NB451_373.out; have hms170_3 := NB451_382.out; have hms170_4 := NB451_387.out; have hms170_5 := NB451_399.out
              have hs171 : w164.cell? ⟨gb451, 5, none⟩ = some (.int .i64 0) := (blk_cell BK451.out 5).trans rfl
              have hfs171 := blk_frozen BK451.out 5
              have hns171_0 := NB346_451.out; have hns171_1 := NB347_451.out; have hns171_2 := NB373_451.out; have hns171_3 := NB382_451.out; have hns171_4 := NB387_451.out; have hns171_5 := NB399_451.out; have hms171_0 := NB451_346.out; have hms171_1 := NB451_347.out; have hms171_2 := NB451_373.out; have hms171_3 := NB451_382.out; have hms171_4 := NB451_387.out; have hms171_5 := NB451_399.out
              refine skip_ (w1 := ?_) (by rfl) rfl ?_ ?_
              rotate_left
              ·go_simp
               rfl
              refine hK.out _ _ ⟨((cell_far (p := ⟨gb451, _, none⟩) NB346_451.out _).trans (((cell_far (p := ⟨gb451, _, none⟩) NB346_451.out _).trans (((cell_far (p := ⟨gb451, _, none⟩) NB346_451.out _).trans (((cell_far (p := ⟨gb451, _, none⟩) NB346_451.out _).trans (((cell_far (p := ⟨gb451, _, none⟩) NB346_451.out _).trans (((cell_far (p := ⟨gb451, _, none⟩) NB346_451.out _).trans (hHeld.1)))))))))))), ((cell_far (p := ⟨gb451, _, none⟩) NB346_451.out _).trans (((cell_far (p := ⟨gb451, _, none⟩) NB346_451.out _).trans (((cell_far (p := ⟨gb451, _, none⟩) NB346_451.out _).trans (((cell_far (p := ⟨gb451, _, none⟩) NB346_451.out _).trans (((cell_far (p := ⟨gb451, _, none⟩) NB346_451.out _).trans (((cell_far (p := ⟨gb451, _, none⟩) NB346_451.out _).trans (hHeld.2.1)))))))))))), ((cell_far (p := ⟨gb451, _, none⟩) NB346_451.out _).trans (((cell_far (p := ⟨gb451, _, none⟩) NB346_451.out _).trans (((cell_far (p := ⟨gb451, _, none⟩) NB346_451.out _).trans (((cell_far (p := ⟨gb451, _, none⟩) NB346_451.out _).trans (((cell_far (p := ⟨gb451, _, none⟩) NB346_451.out _).trans (((cell_far (p := ⟨gb451, _, none⟩) NB346_451.out _).trans (hHeld.2.2.1)))))))))))), ((cell_far (p := ⟨gb451, _, none⟩) NB346_451.out _).trans (((cell_far (p := ⟨gb451, _, none⟩) NB346_451.out _).trans (((cell_far (p := ⟨gb451, _, none⟩) NB346_451.out _).trans (((cell_far (p := ⟨gb451, _, none⟩) NB346_451.out _).trans (((cell_far (p := ⟨gb451, _, none⟩) NB346_451.out _).trans (((cell_far (p := ⟨gb451, _, none⟩) NB346_451.out _).trans (hHeld.2.2.2.1)))))))))))), ((cell_far (p := ⟨gb451, _, none⟩) NB346_451.out _).trans (((cell_far (p := ⟨gb451, _, none⟩) NB346_451.out _).trans (((cell_far (p := ⟨gb451, _, none⟩) NB346_451.out _).trans (((cell_far (p := ⟨gb451, _, none⟩) NB346_451.out _).trans (((cell_far (p := ⟨gb451, _, none⟩) NB346_451.out _).trans (((cell_far (p := ⟨gb451, _, none⟩) NB346_451.out _).trans (hHeld.2.2.2.2.1)))))))))))), ((cell_far (p := ⟨gb451, _, none⟩) NB346_451.out _).trans (((cell_far (p := ⟨gb451, _, none⟩) NB346_451.out _).trans (((cell_far (p := ⟨gb451, _, none⟩) NB346_451.out _).trans (((cell_far (p := ⟨gb451, _, none⟩) NB346_451.out _).trans (((cell_far (p := ⟨gb451, _, none⟩) NB346_451.out _).trans (((cell_far (p := ⟨gb451, _, none⟩) NB346_451.out _).trans (hHeld.2.2.2.2.2.1)))))))))))), ((cell_far (p := ⟨gb451, _, none⟩) NB347_451.out _).trans (((cell_far (p := ⟨gb451, _, none⟩) NB347_451.out _).trans (((cell_far (p := ⟨gb451, _, none⟩) NB347_451.out _).trans (((cell_far (p := ⟨gb451, _, none⟩) NB347_451.out _).trans (((cell_far (p := ⟨gb451, _, none⟩) NB347_451.out _).trans (((cell_far (p := ⟨gb451, _, none⟩) NB347_451.out _).trans (hHeld.2.2.2.2.2.2.1)))))))))))), ((cell_far (p := ⟨gb451, _, none⟩) NB347_451.out _).trans (((cell_far (p := ⟨gb451, _, none⟩) NB347_451.out _).trans (((cell_far (p := ⟨gb451, _, none⟩) NB347_451.out _).trans (((cell_far (p := ⟨gb451, _, none⟩) NB347_451.out _).trans (((cell_far (p := ⟨gb451, _, none⟩) NB347_451.out _).trans (((cell_far (p := ⟨gb451, _, none⟩) NB347_451.out _).trans (hHeld.2.2.2.2.2.2.2))))))))))))⟩ (fun hHeld => ?_)
              clear hK K
              refine pure_ (i := 11) (N := some 18) (v := ?_) (a' := ?_) #[true, true, true, true, true, true, true, true, true, true, true, true] rfl rfl (any_of HT_.out (by kernel_rfl)) (fun _ _ _ h => h) (Or.inl ⟨by rfl, ?_⟩) ?_ ?_
              rotate_left; · intro w'; go_simp; with_reducible rfl
              rotate_left; · simp only [Act.put, List.setIfInBounds_toArray, List.set_cons_zero, List.set_cons_succ, i64_w, i32_w]; rfl
              refine done_ (done_of HT_.out (by kernel_rfl)) ?_
              go_upto_region 36 with (fail)
              go_cut [126] (fun v126 wc => ∃ (kq : Nat) (x126_155 : Bool), v126 = .bool x126_155 ∧ Aside0 (laws_FnExactHelpers.j2 kq t425 t424 x126_155 t423 t391 t392 t393 t394 t395 = some r) ∧ Aside0 (kq ≤ kj101) ∧ Aside0 (Kd.R (Kd.int .i64) 3 wc w.heap.size (fun k_ => some k_ ≠ ((.slice Ao31 t362.length co31) : Value).ownBlock ∧ some k_ ≠ ((.slice Ao43 t417.length co43) : Value).ownBlock ∧ some k_ ≠ ((.slice Ao61 t388.length co61) : Value).ownBlock ∧ some k_ ≠ ((.slice Ao165 t440.length co165) : Value).ownBlock) (.slice Ao145 t396.length co145) t425) ∧ Aside0 (Kd.R (Kd.int .i64) 3 wc w.heap.size (fun k_ => some k_ ≠ ((.slice Ao145 t396.length co145) : Value).ownBlock ∧ some k_ ≠ ((.slice Ao43 t417.length co43) : Value).ownBlock ∧ some k_ ≠ ((.slice Ao61 t388.length co61) : Value).ownBlock ∧ some k_ ≠ ((.slice Ao165 t440.length co165) : Value).ownBlock) (.slice Ao31 t362.length co31) t362) ∧ Aside0 (Kd.R (Kd.int .i64) 3 wc w.heap.size (fun k_ => some k_ ≠ ((.slice Ao145 t396.length co145) : Value).ownBlock ∧ some k_ ≠ ((.slice Ao31 t362.length co31) : Value).ownBlock ∧ some k_ ≠ ((.slice Ao61 t388.length co61) : Value).ownBlock ∧ some k_ ≠ ((.slice Ao165 t440.length co165) : Value).ownBlock) (.slice Ao43 t417.length co43) t417) ∧ Aside0 (Kd.R k82 82 wc w.heap.size (fun _ => True) (.slice Ao57 t419.length co57) t419) ∧ Aside0 (Kd.R (Kd.int .i64) 3 wc w.heap.size (fun k_ => some k_ ≠ ((.slice Ao145 t396.length co145) : Value).ownBlock ∧ some k_ ≠ ((.slice Ao31 t362.length co31) : Value).ownBlock ∧ some k_ ≠ ((.slice Ao43 t417.length co43) : Value).ownBlock ∧ some k_ ≠ ((.slice Ao165 t440.length co165) : Value).ownBlock) (.slice Ao61 t388.length co61) t423) ∧ Aside0 (Kd.R (Kd.int .i64) 3 wc w.heap.size (fun k_ => some k_ ≠ ((.slice Ao145 t396.length co145) : Value).ownBlock ∧ some k_ ≠ ((.slice Ao31 t362.length co31) : Value).ownBlock ∧ some k_ ≠ ((.slice Ao43 t417.length co43) : Value).ownBlock ∧ some k_ ≠ ((.slice Ao61 t388.length co61) : Value).ownBlock) (.slice Ao165 t440.length co165) t440) ∧ Aside0 (wc.heap[gb346]? = some (.cells #[(.slice A0_0 l0_0.length c0_0), .int .i64 a0_1, .int .i64 a0_2, .int .i64 a0_3, .int .i64 a0_4, .int .i64 a0_5] 88 (0, 0))) ∧ Aside0 (wc.heap[gb347]? = some (.cells #[.int .i64 a1_0, (.slice A1_1 l1_1.length c1_1)] 37 (0, 0))) ∧ Aside0 (wc.heap[gb373]? = some (.cells #[(.slice Ao31 t362.length co31), .int .i64 t365, .int .i64 t366, .int .i64 t367, .int .i64 t368, .int .i64 t369] 90 (0, 0))) ∧ Aside0 (wc.heap[gb382]? = some (.cells #[(.slice Ao43 t417.length co43), .int .i64 t377, .int .i64 t378, .int .i64 t379, .int .i64 t380, .int .i64 t381] 90 (0, 0))) ∧ Aside0 (wc.heap[gb387]? = some (.cells #[.int .i64 t383, (.slice Ao57 t419.length co57)] 41 (0, 0))) ∧ Aside0 (wc.heap[gb399]? = some (.cells #[(.slice Ao61 t388.length co61), .int .i64 t391, .int .i64 t392, .int .i64 t393, .int .i64 t394, .int .i64 t395] 90 (0, 0))) ∧ Aside0 (wc.heap[gb451]? = some (.cells #[(.slice Ao165 t440.length co165), .int .i64 t443, .int .i64 t444, .int .i64 t445, .int .i64 t446, .int .i64 t447] 90 (0, 0))) ∧ Aside0 (Below w.heap.size w wc))
              case first =>
               have H := HC156.out; clear HC156; replace H := Option.bind_eq_some_iff.mp H; obtain ⟨t452, A1720, H⟩ := H; have A172 := Aside0.mk A1720; clear A1720; have hnb173 := NB451_346.out; have hnc173 := NB346_451.out; have hnb174 := NB451_347.out; have hnc174 := NB347_451.out; have hnb175 := NB451_373.out; have hnc175 := NB373_451.out; have hnb176 := NB451_382.out; have hnc176 := NB382_451.out; have hnb177 := NB451_387.out; have hnc177 := NB387_451.out; have hnb178 := NB451_399.out; have hnc178 := NB399_451.out; obtain ⟨hcz179_0, hcz179_1, hcz179_2, hcz179_3, hcz179_4, hcz179_5⟩ := blkz6 BK451.out; have hfz179_0 := blkf BK451.out; have hnb180 := NB373_346.out; have hnc180 := NB346_373.out; have hnb181 := NB373_347.out; have hnc181 := NB347_373.out; have hnb182 := NB373_382.out; have hnc182 := NB382_373.out; have hnb183 := NB373_387.out; have hnc183 := NB387_373.out; have hnb184 := NB373_399.out; have hnc184 := NB399_373.out; obtain ⟨hcz185_0, hcz185_1, hcz185_2, hcz185_3, hcz185_4, hcz185_5⟩ := blkz6 BK373.out; have hfz185_0 := blkf BK373.out
               replace H := Aside0.mk H
               go_wp2_with (first | ((with_reducible refine gate_callee (f := 60) rfl ?_); refine goesL_ (some 119) rfl rfl Try.func60 (by kernel_rfl) rfl #[.agg #[.slice Ao165 t440.length co165, .int .i64 t443, .int .i64 t444, .int .i64 t445, .int .i64 t446, .int .i64 t447], .agg #[.slice Ao31 t362.length co31, .int .i64 t365, .int .i64 t366, .int .i64 t367, .int .i64 t368, .int .i64 t369]] rfl (by (try simp only [List.map_toArray, List.map_cons, List.map_nil]); first | done | rfl | (simp only [List.length_drop, List.length_take]; rfl)) ?_; (with_reducible refine (laws_eqProber.calls kj101 _ _ t440 t443 t444 t445 t446 t447 _ _ t362 t365 t366 t367 t368 t369 t452 _ ?side1 ?side2 ?side3 ?side4 A172.out).mono ?_); (case side1 => refine (Kd.R_reads' (e := 3) (base := w.heap.size) (ok := fun k_ => (some k_ ≠ (v429 : Value).ownBlock ∧ (some k_ ≠ (v449 : Value).ownBlock ∧ (some k_ ≠ (.slice Ao145 t396.length co145 : Value).ownBlock ∧ (some k_ ≠ (.slice Ao31 t362.length co31 : Value).ownBlock ∧ (some k_ ≠ (.slice Ao43 t417.length co43 : Value).ownBlock ∧ (some k_ ≠ (.slice Ao61 t388.length co61 : Value).ownBlock ∧ some k_ ≠ (v371 : Value).ownBlock))))))) (n := t440.length) (c := co165) ?_).2.2; exact (by exact (Kd.R_farN HO442.out BK451.out))); (case side2 => exact (Kd.R_reads' HO442.out).2.1); (case side3 => refine (Kd.R_reads' (e := 3) (base := w.heap.size) (ok := fun k_ => (some k_ ≠ (v429 : Value).ownBlock ∧ (some k_ ≠ (.slice Ao165 t440.length co165 : Value).ownBlock ∧ (some k_ ≠ (v449 : Value).ownBlock ∧ (some k_ ≠ (.slice Ao145 t396.length co145 : Value).ownBlock ∧ (some k_ ≠ (.slice Ao43 t417.length co43 : Value).ownBlock ∧ (some k_ ≠ (.slice Ao61 t388.length co61 : Value).ownBlock ∧ some k_ ≠ (v371 : Value).ownBlock))))))) (n := t362.length) (c := co31) ?_).2.2; exact (by exact (Kd.R_farN HO_374000.out BK451.out))); (case side4 => exact (Kd.R_reads' HO_374000.out).2.1); rintro e w186 ⟨rfl, hb⟩; refine ⟨_, rfl, ?_⟩; have n_ := an (Kd.R_below (by exact (Kd.R_farN HO_9.out BK451.out)) hb) (an (Kd.R_below (by exact (Kd.R_farN HO_13.out BK451.out)) hb) (an (Kd.R_below (by exact (Kd.R_farN HO_374000.out BK451.out)) hb) (an (Kd.R_below (by exact (Kd.R_farN HO_383000.out BK451.out)) hb) (an (Kd.R_below (by exact (Kd.R_farN HO_388001.out BK451.out)) hb) (an (Kd.R_below (by exact (Kd.R_farN HO_400000.out BK451.out)) hb) (an (Kd.R_below (by exact (Kd.R_farN HO430.out BK451.out)) hb) (an (Kd.R_below (by exact (Kd.R_farN HO439.out BK451.out)) hb) (an (Kd.R_below (by exact (Kd.R_farN HO442.out BK451.out)) hb) (an (Kd.R_below (by exact (Kd.R_farN HO450.out BK451.out)) hb) (an (blk_below (blk_kb BK346.out NB346_451.out) hb) (an (blk_below (blk_kb BK347.out NB347_451.out) hb) (an (blk_below (blk_kb BK373.out NB373_451.out) hb) (an (blk_below (blk_kb BK382.out NB382_451.out) hb) (an (blk_below (blk_kb BK387.out NB387_451.out) hb) (an (blk_below (blk_kb BK399.out NB399_451.out) hb) (an (blk_below (g := gb451) (o := .cells #[.slice Ao165 t440.length co165, .int .i64 t443, .int .i64 t444, .int .i64 t445, .int .i64 t446, .int .i64 t447] 90 (0, 0)) (by (with_reducible repeat (first | refine blk_drewN ?_ _ | refine blk_drew ?_ | refine blk_alloc ?_ _)); exact blk_fill6 BK451.out) hb) (an (below_step (by exact bel0) hb) (trivial)))))))))))))))))); clear HO_9 HO_13 HO_374000 HO_383000 HO_388001 HO_400000 HO430 HO439 HO442 HO450 BK346 BK347 BK373 BK382 BK387 BK399 BK451 HB; obtain ⟨HO_9, HO_13, HO_374000, HO_383000, HO_388001, HO_400000, HO430, HO439, HO442, HO450, BK346, BK347, BK373, BK382, BK387, BK399, BK451, HB, -⟩ := n_; (try clear hb); (try clear hb2); (try clear hk); (try clear hi); refine Stop.out ?_))
               refine Stop.mk ?_
               replace H := H.out
               by_cases c187 : t452 = true
               ·subst c187; rw [if_pos rfl] at H; replace H := Option.bind_eq_some_iff.mp H; obtain ⟨t453, A1880, H⟩ := H; have A188 := Aside0.mk A1880; clear A1880
                have H' := Aside0.mk H
                clear H
                obtain ⟨Ao189, co189, eo189⟩ := Kd.R_slice HO450.out
                subst eo189
                obtain ⟨Ao190, co190, eo190⟩ := Kd.R_slice HO_9.out
                subst eo190
                go_wp2_with (first | (go_at_call 43; (with_reducible refine (laws_eqIntS.calls kj101 _ _ t448 _ _ t370 t453 _ ?side1 ?side2 ?side3 ?side4 A188.out).mono ?_); (case side1 => repeat (first | exact (Kd.R_reads' HO450.out).2.2 | (with_reducible refine Kd.C_alloc ?_ _) | (with_reducible refine Kd.C_drewN ?_ _) | (with_reducible refine Kd.C_drew ?_))); (case side2 => exact (Kd.R_reads' HO450.out).2.1); (case side3 => repeat (first | exact (Kd.R_reads' HO_9.out).2.2 | (with_reducible refine Kd.C_alloc ?_ _) | (with_reducible refine Kd.C_drewN ?_ _) | (with_reducible refine Kd.C_drew ?_))); (case side4 => exact (Kd.R_reads' HO_9.out).2.1); rintro e w' ⟨rfl, ⟨nd, rfl⟩⟩))
                go_meet
                case rel => exact ⟨_, (!t453), (by first | rfl | (simp; done) | (simp [*]; done)), H', ⟨by have := HJ21.out; have := HJ101.out; first | omega | exact Nat.le_refl _⟩, ⟨by (try simp only [hl383000_101]); (try simp only [hl388001_101]); exact Kd.R_nw (Kd.R_mono HO_13.out (fun _ hk => ⟨hk.2.2.2.1, ⟨hk.2.2.2.2.1, ⟨hk.2.2.2.2.2.1, hk.2.1⟩⟩⟩))⟩, ⟨by (try simp only [hl383000_101]); (try simp only [hl388001_101]); exact Kd.R_nw (Kd.R_mono HO_374000.out (fun _ hk => ⟨hk.2.2.2.1, ⟨hk.2.2.2.2.1, ⟨hk.2.2.2.2.2.1, hk.2.1⟩⟩⟩))⟩, ⟨by (try simp only [hl383000_101]); (try simp only [hl388001_101]); exact Kd.R_nw (Kd.R_mono HO_383000.out (fun _ hk => ⟨hk.2.2.2.1, ⟨hk.2.2.2.2.1, ⟨hk.2.2.2.2.2.1, hk.2.1⟩⟩⟩))⟩, ⟨by (try simp only [hl383000_101]); (try simp only [hl388001_101]); exact Kd.R_nw (Kd.R_mono HO_388001.out (fun _ hk => trivial))⟩, ⟨by (try simp only [hl383000_101]); (try simp only [hl388001_101]); exact Kd.R_nw (Kd.R_mono HO_400000.out (fun _ hk => ⟨hk.2.2.2.1, ⟨hk.2.2.2.2.1, ⟨hk.2.2.2.2.2.1, hk.2.1⟩⟩⟩))⟩, ⟨by (try simp only [hl383000_101]); (try simp only [hl388001_101]); exact Kd.R_nw (Kd.R_mono HO442.out (fun _ hk => ⟨hk.2.2.1, ⟨hk.2.2.2.1, ⟨hk.2.2.2.2.1, hk.2.2.2.2.2.1⟩⟩⟩))⟩, ⟨by (try simp only [hl383000_101]); (try simp only [hl388001_101]); exact blk_nw BK346.out⟩, ⟨by (try simp only [hl383000_101]); (try simp only [hl388001_101]); exact blk_nw BK347.out⟩, ⟨by (try simp only [hl383000_101]); (try simp only [hl388001_101]); exact blk_nw BK373.out⟩, ⟨by (try simp only [hl383000_101]); (try simp only [hl388001_101]); exact blk_nw BK382.out⟩, ⟨by (try simp only [hl383000_101]); (try simp only [hl388001_101]); exact blk_nw BK387.out⟩, ⟨by (try simp only [hl383000_101]); (try simp only [hl388001_101]); exact blk_nw BK399.out⟩, ⟨by (try simp only [hl383000_101]); (try simp only [hl388001_101]); exact blk_nw BK451.out⟩, ⟨by exact bel0⟩⟩
               ·replace c187 := Bool.eq_false_iff.mpr c187
                subst c187
                rw [if_neg (show ¬ (false = true) by decide)] at H
                have H' := Aside0.mk H
                clear H
                go_wp2
                go_meet
                case rel => exact ⟨_, (true), (by first | rfl | (simp; done) | (simp [*]; done)), H', ⟨by have := HJ21.out; have := HJ101.out; first | omega | exact Nat.le_refl _⟩, ⟨by (try simp only [hl383000_101]); (try simp only [hl388001_101]); exact Kd.R_nw (Kd.R_mono HO_13.out (fun _ hk => ⟨hk.2.2.2.1, ⟨hk.2.2.2.2.1, ⟨hk.2.2.2.2.2.1, hk.2.1⟩⟩⟩))⟩, ⟨by (try simp only [hl383000_101]); (try simp only [hl388001_101]); exact Kd.R_nw (Kd.R_mono HO_374000.out (fun _ hk => ⟨hk.2.2.2.1, ⟨hk.2.2.2.2.1, ⟨hk.2.2.2.2.2.1, hk.2.1⟩⟩⟩))⟩, ⟨by (try simp only [hl383000_101]); (try simp only [hl388001_101]); exact Kd.R_nw (Kd.R_mono HO_383000.out (fun _ hk => ⟨hk.2.2.2.1, ⟨hk.2.2.2.2.1, ⟨hk.2.2.2.2.2.1, hk.2.1⟩⟩⟩))⟩, ⟨by (try simp only [hl383000_101]); (try simp only [hl388001_101]); exact Kd.R_nw (Kd.R_mono HO_388001.out (fun _ hk => trivial))⟩, ⟨by (try simp only [hl383000_101]); (try simp only [hl388001_101]); exact Kd.R_nw (Kd.R_mono HO_400000.out (fun _ hk => ⟨hk.2.2.2.1, ⟨hk.2.2.2.2.1, ⟨hk.2.2.2.2.2.1, hk.2.1⟩⟩⟩))⟩, ⟨by (try simp only [hl383000_101]); (try simp only [hl388001_101]); exact Kd.R_nw (Kd.R_mono HO442.out (fun _ hk => ⟨hk.2.2.1, ⟨hk.2.2.2.1, ⟨hk.2.2.2.2.1, hk.2.2.2.2.2.1⟩⟩⟩))⟩, ⟨by (try simp only [hl383000_101]); (try simp only [hl388001_101]); exact blk_nw BK346.out⟩, ⟨by (try simp only [hl383000_101]); (try simp only [hl388001_101]); exact blk_nw BK347.out⟩, ⟨by (try simp only [hl383000_101]); (try simp only [hl388001_101]); exact blk_nw BK373.out⟩, ⟨by (try simp only [hl383000_101]); (try simp only [hl388001_101]); exact blk_nw BK382.out⟩, ⟨by (try simp only [hl383000_101]); (try simp only [hl388001_101]); exact blk_nw BK387.out⟩, ⟨by (try simp only [hl383000_101]); (try simp only [hl388001_101]); exact blk_nw BK399.out⟩, ⟨by (try simp only [hl383000_101]); (try simp only [hl388001_101]); exact blk_nw BK451.out⟩, ⟨by exact bel0⟩⟩
              case rest =>
               clear HC156; try clear c1; try clear c2; try clear p2; try clear c5; try clear c6; try clear c17; try clear c18; try clear c25; try clear c58; try clear c59; try clear c60; try clear c173; try clear c174; try clear c175; try clear c176; try clear c177; try clear c178; try clear c180; try clear c181; try clear c182; try clear c183; try clear c184; try clear c187; try clear hcz179_0; try clear hcz179_1; try clear hcz179_2; try clear hcz179_3; try clear hcz179_4; try clear hcz179_5; try clear hcz185_0; try clear hcz185_1; try clear hcz185_2; try clear hcz185_3; try clear hcz185_4; try clear hcz185_5; try clear hfz179_0; try clear hfz179_1; try clear hfz179_2; try clear hfz179_3; try clear hfz179_4; try clear hfz179_5; try clear hfz185_0; try clear hfz185_1; try clear hfz185_2; try clear hfz185_3; try clear hfz185_4; try clear hfz185_5
               obtain ⟨kq, x126_155, rfl, HA, HJ155, HO_13, HO_374000, HO_383000, HO_388001, HO_400000, HO_452000, BK346, BK347, BK373, BK382, BK387, BK399, BK451, HB⟩ := hcut
               have hl13_155 := (Kd.R_reads' HO_13.out).1
               rw [hl13_155] at HO_13
               (try simp only [hl13_155])
               (try simp only [hl13_155] at BK346)
               (try simp only [hl13_155] at BK347)
               (try simp only [hl13_155] at BK373)
               (try simp only [hl13_155] at BK382)
               (try simp only [hl13_155] at BK387)
               (try simp only [hl13_155] at BK399)
               (try simp only [hl13_155] at BK451)
               (try simp only [hl13_155] at HO_374000)
               (try simp only [hl13_155] at HO_383000)
               (try simp only [hl13_155] at HO_388001)
               (try simp only [hl13_155] at HO_400000)
               (try simp only [hl13_155] at HO_452000)
               have hl400000_155 := (Kd.R_reads' HO_400000.out).1
               rw [hl400000_155] at HO_400000
               (try simp only [hl400000_155])
               (try simp only [hl400000_155] at BK346)
               (try simp only [hl400000_155] at BK347)
               (try simp only [hl400000_155] at BK373)
               (try simp only [hl400000_155] at BK382)
               (try simp only [hl400000_155] at BK387)
               (try simp only [hl400000_155] at BK399)
               (try simp only [hl400000_155] at BK451)
               (try simp only [hl400000_155] at HO_13)
               (try simp only [hl400000_155] at HO_374000)
               (try simp only [hl400000_155] at HO_383000)
               (try simp only [hl400000_155] at HO_388001)
               (try simp only [hl400000_155] at HO_452000)
               cases kq with
               | zero => exact absurd HA.out (by simp [laws_FnExactHelpers.j2])
               | succ kj155 =>
                have H := HA.out; clear HA
                simp only [laws_FnExactHelpers.j2] at H
                by_cases c191 : x126_155 = true
                ·subst c191; rw [if_pos rfl] at H
                 obtain rfl := Option.some.inj H
                 go_wp2
                 go_ret
                 exact ⟨by first | rfl | (simp [errW_none, errW_some] <;> rfl) | (simp [*, errW_none, errW_some] <;> rfl), by exact bel0⟩
                ·replace c191 := Bool.eq_false_iff.mpr c191
                 subst c191
                 rw [if_neg (show ¬ (false = true) by decide)] at H
                 replace H := Option.bind_eq_some_iff.mp H; obtain ⟨t454, A1920, H⟩ := H; have A192 := Aside0.mk A1920; clear A1920; have hnb193 := NB399_346.out; have hnc193 := NB346_399.out; have hnb194 := NB399_347.out; have hnc194 := NB347_399.out; have hnb195 := NB399_373.out; have hnc195 := NB373_399.out; have hnb196 := NB399_382.out; have hnc196 := NB382_399.out; have hnb197 := NB399_387.out; have hnc197 := NB387_399.out; have hnb198 := NB399_451.out; have hnc198 := NB451_399.out; obtain ⟨hcz199_0, hcz199_1, hcz199_2, hcz199_3, hcz199_4, hcz199_5⟩ := blkz6 BK399.out; have hfz199_0 := blkf BK399.out
                 replace H := Aside0.mk H
                 go_wp2_with (first | ((with_reducible refine gate_callee (f := 62) rfl ?_); refine goesL_ (some 129) rfl rfl Try.func62 (by kernel_rfl) rfl #[.agg #[.slice Ao61 t423.length co61, .int .i64 t391, .int .i64 t392, .int .i64 t393, .int .i64 t394, .int .i64 t395], .int .i64 1] rfl (by (try simp only [List.map_toArray, List.map_cons, List.map_nil]); first | done | rfl | (simp only [List.length_drop, List.length_take]; rfl)) ?_; (with_reducible refine (laws_heldProber.calls kj155 _ _ t423 t391 t392 t393 t394 t395 1 t454 _ ?side1 ?side2 A192.out).mono ?_); (case side1 => repeat (first | exact (Kd.R_reads' HO_400000.out).2.2 | (with_reducible refine Kd.C_alloc ?_ _) | (with_reducible refine Kd.C_drewN ?_ _) | (with_reducible refine Kd.C_drew ?_))); (case side2 => exact (Kd.R_reads' HO_400000.out).2.1); rintro e w200 ⟨rfl, hb⟩; refine ⟨_, rfl, ?_⟩; have n_ := an (Kd.R_below (by exact Kd.R_nw HO_13.out) hb) (an (Kd.R_below (by exact Kd.R_nw HO_374000.out) hb) (an (Kd.R_below (by exact Kd.R_nw HO_383000.out) hb) (an (Kd.R_below (by exact Kd.R_nw HO_388001.out) hb) (an (Kd.R_below (by exact Kd.R_nw HO_400000.out) hb) (an (Kd.R_below (by exact Kd.R_nw HO_452000.out) hb) (an (blk_below (blk_nw BK346.out) hb) (an (blk_below (blk_nw BK347.out) hb) (an (blk_below (blk_nw BK373.out) hb) (an (blk_below (blk_nw BK382.out) hb) (an (blk_below (blk_nw BK387.out) hb) (an (blk_below (blk_nw BK399.out) hb) (an (blk_below (blk_nw BK451.out) hb) (an (below_step (by exact bel0) hb) (trivial)))))))))))))); clear HO_13 HO_374000 HO_383000 HO_388001 HO_400000 HO_452000 BK346 BK347 BK373 BK382 BK387 BK399 BK451 HB; obtain ⟨HO_13, HO_374000, HO_383000, HO_388001, HO_400000, HO_452000, BK346, BK347, BK373, BK382, BK387, BK399, BK451, HB, -⟩ := n_; (try clear hb); (try clear hb2); (try clear hk); (try clear hi); refine Stop.out ?_))
                 refine Stop.mk ?_
                 replace H := H.out
                 by_cases c201 : t454 < 0
                 ·rw [if_pos c201] at H; have c201b0 : decide (t454 < 0) = true := decide_eq_true c201; clear c201; (try simp only [c201b0])
                  obtain rfl := Option.some.inj H
                  go_wp2
                  go_ret
                  exact ⟨by first | rfl | (simp [errW_none, errW_some] <;> rfl) | (simp [*, errW_none, errW_some] <;> rfl), by exact bel0⟩
                 ·rw [if_neg c201] at H; have c201b0 : decide (t454 < 0) = false := decide_eq_false c201; clear c201; (try simp only [c201b0]); replace H := Option.bind_eq_some_iff.mp H; obtain ⟨t455, A2020, H⟩ := H; have A202 := Aside0.mk A2020; clear A2020
                  replace H := Aside0.mk H
                  go_wp2_with (first | ((with_reducible refine gate_callee (f := 45) rfl ?_); refine goesL_ (some 134) rfl rfl Try.func45 (by kernel_rfl) rfl #[.slice Ao145 t425.length co145, .int .i64 t454] rfl (by (try simp only [List.map_toArray, List.map_cons, List.map_nil]); first | done | rfl | (simp only [List.length_drop, List.length_take]; rfl)) ?_; (with_reducible refine (laws_heldIntS.calls kj155 _ _ t425 t454 t455 _ ?side1 ?side2 A202.out).mono ?_); (case side1 => repeat (first | exact (Kd.R_reads' HO_13.out).2.2 | (with_reducible refine Kd.C_alloc ?_ _) | (with_reducible refine Kd.C_drewN ?_ _) | (with_reducible refine Kd.C_drew ?_))); (case side2 => exact (Kd.R_reads' HO_13.out).2.1); rintro e w' ⟨rfl, ⟨nd, rfl⟩⟩; refine ⟨_, rfl, ?_⟩; refine Stop.out ?_))
                  refine Stop.mk ?_
                  replace H := H.out
                  by_cases c203 : t455 < 0
                  ·rw [if_pos c203] at H; have c203b0 : decide (t455 < 0) = true := decide_eq_true c203; clear c203; (try simp only [c203b0])
                   obtain rfl := Option.some.inj H
                   go_wp2
                   go_ret
                   exact ⟨by first | rfl | (simp [errW_none, errW_some] <;> rfl) | (simp [*, errW_none, errW_some] <;> rfl), by exact bel0⟩
                  ·rw [if_neg c203] at H; have c203b0 : decide (t455 < 0) = false := decide_eq_false c203; clear c203; (try simp only [c203b0])
                   by_cases c204 : t455 = t424
                   ·rw [if_pos c204] at H; have c204b0 : (t455 == t424) = true := beq_iff_eq.mpr c204; have c204b1 : (t455 != t424) = false := bne_eq_false_iff_eq.mpr c204; clear c204
                    obtain rfl := Option.some.inj H
                    go_wp2
                    go_ret
                    exact ⟨by first | rfl | (simp [errW_none, errW_some] <;> rfl) | (simp [*, errW_none, errW_some] <;> rfl), by exact bel0⟩
                   ·rw [if_neg c204] at H; have c204b0 : (t455 == t424) = false := beq_eq_false_iff_ne.mpr c204; have c204b1 : (t455 != t424) = true := bne_iff_ne.mpr c204
                    obtain rfl := Option.some.inj H
                    go_wp2
                    go_ret
                    exact ⟨by first | rfl | (simp [errW_none, errW_some] <;> rfl) | (simp [*, errW_none, errW_some] <;> rfl), by exact bel0⟩
             ·rw [if_neg c152] at H; have c152b0 : (t427 == t424) = false := beq_eq_false_iff_ne.mpr c152; have c152b1 : (t427 != t424) = true := bne_iff_ne.mpr c152
              obtain rfl := Option.some.inj H
              go_wp2
              go_ret
              exact ⟨by first | rfl | (simp [errW_none, errW_some] <;> rfl) | (simp [*, errW_none, errW_some] <;> rfl), by exact bel0⟩
       ·replace c99 := Bool.eq_false_iff.mpr c99
        subst c99
        rw [if_neg (show ¬ (false = true) by decide)] at H
        obtain rfl := Option.some.inj H
        go_wp2
        go_ret
        exact ⟨by first | rfl | (simp [errW_none, errW_some] <;> rfl) | (simp [*, errW_none, errW_some] <;> rfl), by exact bel0⟩
      ·replace c92 := Bool.eq_false_iff.mpr c92
       subst c92
       rw [if_neg (show ¬ (false = true) by decide)] at H
       obtain rfl := Option.some.inj H
       go_wp2
       go_ret
       exact ⟨by first | rfl | (simp [errW_none, errW_some] <;> rfl) | (simp [*, errW_none, errW_some] <;> rfl), by exact bel0⟩

end Go.Proofs.Ytigoajblljolcaa.XFnExactHelpers
